/-
 PROVED: the contracts of package regs: Pair, PutPair, Get, Put, Swap, Cond.
-/
import Derived.Test.YtnelghpendfdmaaGreatDoorKRg
namespace Go.Proofs.YtnelghpendfdmaaGreatDoor.KRow
set_option maxRecDepth 100000
set_option maxHeartbeats 16000000
open Go Go.RowKit Go.Proofs.YtnelghpendfdmaaGreatDoorW.PrintWords Go.Proofs.YtnelghpendfdmaaGreatDoorW.PrintLast Go.Proofs.YtnelghpendfdmaaGreatDoorW.PrintMore
open Go.Proofs.YtnelghpendfdmaaGreatDoor.HFun
set_option linter.unusedVariables false
set_option linter.unusedSimpArgs false
theorem wholeGet (g o b : Nat) (x : Int) (w : World) (hc : w.cell? ⟨b,0,none⟩ = some (.pointer (some ⟨g,o,none⟩))) (hx : w.cell? ⟨g,o,none⟩ = some (.int .u16 x)) :
  Calls Tryz.prog 151 #[.pointer (some ⟨b,0,none⟩)] w fun e w' => e = .returned (.int .u16 x) ∧ w' = w :=by
 go_enter Tryz.func151,Tryz.ntmps151
 go_wp2_with fail
 go_ret
 exact ⟨rfl,rfl⟩
theorem wholePut (g o b : Nat) (x v : Int) (w : World) (hc : w.cell? ⟨b,0,none⟩ = some (.pointer (some ⟨g,o,none⟩))) (hx : w.cell? ⟨g,o,none⟩ = some (.int .u16 x)) (hf : w.frozen? ⟨g,o,none⟩ = false) :
  Calls Tryz.prog 152 #[.int .u16 v,.pointer (some ⟨b,0,none⟩)] w fun e w' => e = .returned (.tuple #[]) ∧ w' = w.setCell ⟨g,o,none⟩ (.int .u16 v) :=by
 go_enter Tryz.func152,Tryz.ntmps152
 go_wp2_with fail
 go_end0
 exact ⟨rfl,rfl⟩
theorem twoGet (g p q : Nat) (x y : Int) (w : World) (hx : w.cell? ⟨g,p,none⟩ = some (.int .u8 x)) (hy : w.cell? ⟨g,q,none⟩ = some (.int .u8 y)) :
  Calls Tryz.prog 153 #[.agg #[.pointer (some ⟨g,p,none⟩),.pointer (some ⟨g,q,none⟩)]] w fun e w' => e = .returned (.int .u16 (zbg x y)) ∧ Below w.heap.size w w' :=by
 go_enter Tryz.func153,Tryz.ntmps153
 go_wp2_with (first | ((with_reducible refine gate_region 1 ?_);(refine zak (fun W' => W'.cell? ⟨w.heap.size,0,none⟩ = some (.pointer (some ⟨g,p,none⟩)) ∧ W'.cell? ⟨w.heap.size,1,none⟩ = some (.pointer (some ⟨g,q,none⟩)) ∧ W'.cell? ⟨g,p,none⟩ = some (.int .u8 x) ∧ W'.cell? ⟨g,q,none⟩ = some (.int .u8 y)) [(0,0),(4,0),(1,1),(2,0),(3,1),(5,1),(6,0),(7,1)] [8,9] [8,9] 10 (by kernel_rfl) rfl rfl (by kernel_rfl) (by intro c a d v w h;cases d <;> exact h) ⟨by go_simp,by go_simp,by exact (World.cell?_alloc_lt _ _ _ (World.block_lt_of_cell? w _ hx)).trans hx,by exact (World.cell?_alloc_lt _ _ _ (World.block_lt_of_cell? w _ hy)).trans hy⟩ ?_);(repeat ((first | (refine Sch.pureN (v :=?_) (a' :=?_) rfl rfl (by rfl) ?_ ?_ ?_;rotate_left 2;(· (intro w';go_simp <;> with_reducible rfl))) | (refine Sch.takeN (v :=?_) (a' :=?_) rfl rfl (by rfl) ⟨by go_simp,by go_simp,by exact (World.cell?_alloc_lt _ _ _ (World.block_lt_of_cell? w _ hx)).trans hx,by exact (World.cell?_alloc_lt _ _ _ (World.block_lt_of_cell? w _ hy)).trans hy⟩ ?_ ?_ ?_;rotate_left 2;(· (intro w' hS';(obtain ⟨q0,q1,q2,q3⟩ :=hS';go_simp <;> with_reducible rfl)))));(· (simp only [aput] <;> rfl))));(refine Sch.tail 8 2 rfl rfl ?_;simp only [List.drop_succ_cons,List.drop_zero,List.drop_nil])) | (go_at_call 82;refine (ydh.calls _ _ _ _ (zba _ _)).mono ?_;rintro e w' ⟨rfl,hd⟩;obtain ⟨n,rfl⟩ :=hd.out))
 go_ret
 exact ⟨rfl,by repeat (first | exact Below.refl _ _ | apply below_alloc | apply pw_below_drewN)⟩
theorem twoPut (g p q : Nat) (x y v : Int) (w : World) (hx : w.cell? ⟨g,p,none⟩ = some (.int .u8 x)) (hy : w.cell? ⟨g,q,none⟩ = some (.int .u8 y)) (hf : w.frozen? ⟨g,p,none⟩ = false) (hf2 : w.frozen? ⟨g,q,none⟩ = false) (hpq : p ≠ q) :
  Calls Tryz.prog 154 #[.agg #[.pointer (some ⟨g,p,none⟩),.pointer (some ⟨g,q,none⟩)],.int .u16 v] w fun e w' => e = .returned (.tuple #[]) ∧ ∃ V,Below w.heap.size w V ∧ w' = (V.setCell ⟨g,p,none⟩ (.int .u8 (v / 256 % 256))).setCell ⟨g,q,none⟩ (.int .u8 (v % 256)) :=by
 have hlt :=World.block_lt_of_cell? w _ hx
 simp only at hlt
 have hal : ∀ o,g < (w.alloc o).heap.size :=fun o => by simp;omega
 have hx1 : ∀ o : Obj,(w.alloc o).cell? ⟨g,p,none⟩ = some (.int .u8 x) :=fun o => (World.cell?_alloc_lt _ _ _ hlt).trans hx
 have hy1 : ∀ o : Obj,(w.alloc o).cell? ⟨g,q,none⟩ = some (.int .u8 y) :=fun o => (World.cell?_alloc_lt _ _ _ hlt).trans hy
 go_enter Tryz.func154,Tryz.ntmps154
 go_wp2_with ((((with_reducible refine gate_region 1 ?_);(refine zak (fun W' => W'.cell? ⟨w.heap.size,0,none⟩ = some (.pointer (some ⟨g,p,none⟩)) ∧ W'.cell? ⟨w.heap.size,1,none⟩ = some (.pointer (some ⟨g,q,none⟩))) [(0,0),(2,0),(4,0),(1,1),(3,1),(5,2),(6,0),(7,0),(8,0),(9,0),(10,2)] [11,12] [11,12] 13 (by kernel_rfl) rfl rfl (by kernel_rfl) (by intro c a d v w h;cases d <;> exact h) (by refine ⟨?_,?_⟩ <;> go_simp) ?_);skip;(repeat ((first | (refine Sch.pureN (v :=?_) (a' :=?_) rfl rfl (by rfl) ?_ ?_ ?_;rotate_left 2;(· (intro w';go_simp <;> with_reducible rfl))) | (refine Sch.takeN (v :=?_) (a' :=?_) rfl rfl (by rfl) (by refine ⟨?_,?_⟩ <;> go_simp) ?_ ?_ ?_;rotate_left 2;(· (intro w' hS';(obtain ⟨q0,q1⟩ :=hS';go_simp <;> with_reducible rfl)))));(· (simp only [aput] <;> rfl))));(refine Sch.call (N :=(some 10)) rfl rfl Tryz.func107 (by kernel_rfl) rfl ?_ (by rfl) rfl ?_ ?_;rotate_left;(· (go_simp <;> with_reducible rfl));refine (ydr.calls _ _ _ _ (zby _)).mono ?_;rintro e w' ⟨rfl,hd⟩;obtain ⟨n,rfl⟩ :=hd.out;refine ⟨?_,?_⟩;(· (exact (by refine ⟨?_,?_⟩ <;> go_simp)));refine Sch.norm (a' :=?_) ?_ ?_;rotate_left;(· (simp only [aput] <;> rfl)));(repeat ((refine Sch.pureN (v :=?_) (a' :=?_) rfl rfl (by rfl) ?_ ?_ ?_;rotate_left 2;(· (intro w';go_simp <;> with_reducible rfl)));(· (simp only [aput] <;> rfl))));(refine Sch.skip (w1 :=?_) rfl rfl (by rfl) ?_ ?_ ?_;rotate_left;(· (go_simp <;> with_reducible rfl));(· (exact (by refine ⟨?_,?_⟩ <;> go_simp))));(refine Sch.tail 11 2 rfl rfl ?_;simp only [List.drop_succ_cons,List.drop_zero,List.drop_nil]))))
 go_end0
 exact ⟨rfl,_,by repeat (first | exact Below.refl _ _ | apply below_alloc | apply pw_below_drewN),rfl⟩
theorem zbp (a m : Int) (hm0 : 0 < m) (hm : m ≤ 16) : 0 ≤ rmod a m ∧ rmod a m < m :=by
 unfold rmod
 have h1 :=Int.tmod_lt_of_pos a hm0
 have h2 :=Int.lt_tmod_of_pos a hm0
 rw [show wrap64 (Int.tmod a m + m) = Int.tmod a m + m by unfold wrap64;omega,Int.tmod_eq_emod_of_nonneg (by omega)]
 exact ⟨Int.emod_nonneg _ (by omega),Int.emod_lt_of_pos _ hm0⟩
theorem pair0 (r : Rg) (i code x : Int) (st : Bool) (w : World) (hi : Aside0 (ycg.f i 3 = some x)) (hc : Aside0 (ycg.f code 4 = some 0)) :
  Calls Tryz.prog 87 #[.agg r.vals,.int .i64 i,.int .i64 code,.bool st] w fun e w' => e = .returned (.int .u16 (zbg r.b r.c)) ∧ Below w.heap.size w w' :=by
 go_enter Tryz.func87,Tryz.ntmps87
 go_upto_region 1 with (fail)
 refine gen1r (P :=fun V => Code.wp _ _ _ _ V) w r (fun V hB hlt h => ?_)
 go_wp2_with (first | (go_at_call 115;refine (ycg.calls _ _ _ _ (by first | exact hi.out | exact hc.out)).mono ?_;rintro e w' ⟨rfl,hd⟩;have hb :=zaa hd;replace h :=h.under hb;replace hB :=below_then hB hB.size hb;clear hb;clear hd) | ((first | (go_at_call 114;refine (reach0 _ _ _ _).mono ?_) | (go_at_call 153;refine (twoGet _ _ _ _ _ _ (h.cell 2 _ rfl) (h.cell 3 _ rfl)).mono ?_));rintro e w' ⟨rfl,hb⟩;replace h :=h.under hb;replace hB :=below_then hB hB.size hb;clear hb))
 go_ret
 exact ⟨rfl,hB⟩
theorem pair1 (r : Rg) (i code x : Int) (st : Bool) (w : World) (hi : Aside0 (ycg.f i 3 = some x)) (hc : Aside0 (ycg.f code 4 = some 1)) :
  Calls Tryz.prog 87 #[.agg r.vals,.int .i64 i,.int .i64 code,.bool st] w fun e w' => e = .returned (.int .u16 (zbg r.d r.e)) ∧ Below w.heap.size w w' :=by
 go_enter Tryz.func87,Tryz.ntmps87
 go_upto_region 1 with (fail)
 refine gen1r (P :=fun V => Code.wp _ _ _ _ V) w r (fun V hB hlt h => ?_)
 go_wp2_with (first | (go_at_call 115;refine (ycg.calls _ _ _ _ (by first | exact hi.out | exact hc.out)).mono ?_;rintro e w' ⟨rfl,hd⟩;have hb :=zaa hd;replace h :=h.under hb;replace hB :=below_then hB hB.size hb;clear hb;clear hd) | ((first | (go_at_call 114;refine (reach1 _ _ _ _).mono ?_) | (go_at_call 153;refine (twoGet _ _ _ _ _ _ (h.cell 4 _ rfl) (h.cell 5 _ rfl)).mono ?_));rintro e w' ⟨rfl,hb⟩;replace h :=h.under hb;replace hB :=below_then hB hB.size hb;clear hb))
 go_ret
 exact ⟨rfl,hB⟩
theorem pair3 (r : Rg) (i code x : Int) (w : World) (hi : Aside0 (ycg.f i 3 = some x)) (hc : Aside0 (ycg.f code 4 = some 3)) :
  Calls Tryz.prog 87 #[.agg r.vals,.int .i64 i,.int .i64 code,.bool true] w fun e w' => e = .returned (.int .u16 (zbg r.a r.f)) ∧ Below w.heap.size w w' :=by
 go_enter Tryz.func87,Tryz.ntmps87
 go_upto_region 1 with (fail)
 refine gen1r (P :=fun V => Code.wp _ _ _ _ V) w r (fun V hB hlt h => ?_)
 go_wp2_with (first | (go_at_call 115;refine (ycg.calls _ _ _ _ (by first | exact hi.out | exact hc.out)).mono ?_;rintro e w' ⟨rfl,hd⟩;have hb :=zaa hd;replace h :=h.under hb;replace hB :=below_then hB hB.size hb;clear hb;clear hd) | ((first | (go_at_call 114;refine (reach3 _ _ _).mono ?_) | (go_at_call 153;refine (twoGet _ _ _ _ _ _ (h.cell 0 _ rfl) (h.cell 1 _ rfl)).mono ?_));rintro e w' ⟨rfl,hb⟩;replace h :=h.under hb;replace hB :=below_then hB hB.size hb;clear hb))
 go_ret
 exact ⟨rfl,hB⟩
theorem pair2 (r : Rg) (i code : Int) (st : Bool) (w : World) (hi : Aside0 (ycg.f i 3 = some (0 : Int))) (hc : Aside0 (ycg.f code 4 = some 2)) :
  Calls Tryz.prog 87 #[.agg r.vals,.int .i64 i,.int .i64 code,.bool st] w fun e w' => e = .returned (.int .u16 (zbg r.h r.l)) ∧ Below w.heap.size w w' :=by
 go_enter Tryz.func87,Tryz.ntmps87
 go_upto_region 1 with (fail)
 refine gen1r (P :=fun V => Code.wp _ _ _ _ V) w r (fun V hB hlt h => ?_)
 go_wp2_with (first | (go_at_call 115;refine (ycg.calls _ _ _ _ (by first | exact hi.out | exact hc.out)).mono ?_;rintro e w' ⟨rfl,hd⟩;have hb :=zaa hd;replace h :=h.under hb;replace hB :=below_then hB hB.size hb;clear hb;clear hd) | ((first | (go_at_call 114;refine (reach2 _ _ _).mono ?_) | (go_at_call 153;refine (twoGet _ _ _ _ _ _ (h.cell 6 _ rfl) (h.cell 7 _ rfl)).mono ?_));rintro e w' ⟨rfl,hb⟩;replace h :=h.under hb;replace hB :=below_then hB hB.size hb;clear hb))
 go_ret
 exact ⟨rfl,hB⟩
theorem pairS (r : Rg) (i code x : Int) (w : World) (hi : Aside0 (ycg.f i 3 = some x)) (hc : Aside0 (ycg.f code 4 = some 3)) :
  Calls Tryz.prog 87 #[.agg r.vals,.int .i64 i,.int .i64 code,.bool false] w fun e w' => e = .returned (.int .u16 (r.sp)) ∧ Below w.heap.size w w' :=by
 go_enter Tryz.func87,Tryz.ntmps87
 go_upto_region 1 with (fail)
 refine gen1r (P :=fun V => Code.wp _ _ _ _ V) w r (fun V hB hlt h => ?_)
 go_wp2_with (first | (go_at_call 115;refine (ycg.calls _ _ _ _ (by first | exact hi.out | exact hc.out)).mono ?_;rintro e w' ⟨rfl,hd⟩;have hb :=zaa hd;replace h :=h.under hb;replace hB :=below_then hB hB.size hb;clear hb;clear hd) | (go_at_call 114;refine (reachS _ _ _).mono ?_;rintro e w' ⟨b,rfl,hbb,hb,hcc⟩;replace h :=h.under hb;replace hB :=below_then hB hB.size hb;clear hb) | (go_at_call 151;refine (wholeGet _ _ _ _ _ hcc (h.cell 12 _ rfl)).mono ?_;rintro e w' ⟨rfl,rfl⟩))
 go_ret
 exact ⟨rfl,hB⟩
theorem pairI1 (r : Rg) (i code : Int) (st : Bool) (w : World) (hi : Aside0 (ycg.f i 3 = some (1 : Int))) (hc : Aside0 (ycg.f code 4 = some 2)) :
  Calls Tryz.prog 87 #[.agg r.vals,.int .i64 i,.int .i64 code,.bool st] w fun e w' => e = .returned (.int .u16 (r.ix)) ∧ Below w.heap.size w w' :=by
 go_enter Tryz.func87,Tryz.ntmps87
 go_upto_region 1 with (fail)
 refine gen1r (P :=fun V => Code.wp _ _ _ _ V) w r (fun V hB hlt h => ?_)
 go_wp2_with (first | (go_at_call 115;refine (ycg.calls _ _ _ _ (by first | exact hi.out | exact hc.out)).mono ?_;rintro e w' ⟨rfl,hd⟩;have hb :=zaa hd;replace h :=h.under hb;replace hB :=below_then hB hB.size hb;clear hb;clear hd) | (go_at_call 114;refine (reachI1 _ _ _).mono ?_;rintro e w' ⟨b,rfl,hbb,hb,hcc⟩;replace h :=h.under hb;replace hB :=below_then hB hB.size hb;clear hb) | (go_at_call 151;refine (wholeGet _ _ _ _ _ hcc (h.cell 10 _ rfl)).mono ?_;rintro e w' ⟨rfl,rfl⟩))
 go_ret
 exact ⟨rfl,hB⟩
theorem pairI2 (r : Rg) (i code : Int) (st : Bool) (w : World) (hi : Aside0 (ycg.f i 3 = some (2 : Int))) (hc : Aside0 (ycg.f code 4 = some 2)) :
  Calls Tryz.prog 87 #[.agg r.vals,.int .i64 i,.int .i64 code,.bool st] w fun e w' => e = .returned (.int .u16 (r.iy)) ∧ Below w.heap.size w w' :=by
 go_enter Tryz.func87,Tryz.ntmps87
 go_upto_region 1 with (fail)
 refine gen1r (P :=fun V => Code.wp _ _ _ _ V) w r (fun V hB hlt h => ?_)
 go_wp2_with (first | (go_at_call 115;refine (ycg.calls _ _ _ _ (by first | exact hi.out | exact hc.out)).mono ?_;rintro e w' ⟨rfl,hd⟩;have hb :=zaa hd;replace h :=h.under hb;replace hB :=below_then hB hB.size hb;clear hb;clear hd) | (go_at_call 114;refine (reachI2 _ _ _).mono ?_;rintro e w' ⟨b,rfl,hbb,hb,hcc⟩;replace h :=h.under hb;replace hB :=below_then hB hB.size hb;clear hb) | (go_at_call 151;refine (wholeGet _ _ _ _ _ hcc (h.cell 11 _ rfl)).mono ?_;rintro e w' ⟨rfl,rfl⟩))
 go_ret
 exact ⟨rfl,hB⟩
def Rg.pair (r : Rg) (i c : Int) (st : Bool) : Int :=
 if c = 0 then zbg r.b r.c else if c = 1 then zbg r.d r.e else if c = 3 then (if st = true then zbg r.a r.f else r.sp) else if i = 1 then r.ix else if i = 2 then r.iy else zbg r.h r.l
theorem Pair (r : Rg) (i code : Int) (st : Bool) (w : World) :
  Calls Tryz.prog 87 #[.agg r.vals,.int .i64 i,.int .i64 code,.bool st] w fun e w' => e = .returned (.int .u16 (r.pair (rmod i 3) (rmod code 4) st)) ∧ Below w.heap.size w w' :=by
 have hi :=zbp i 3 (by decide) (by decide)
 have hc :=zbp code 4 (by decide) (by decide)
 have fi :=zbq i 3 (by decide)
 have fc :=zbq code 4 (by decide)
 generalize rmod i 3 = x at hi fi ⊢
 generalize rmod code 4 = y at hc fc ⊢
 unfold Rg.pair
 by_cases y0 : y = 0
 ·subst y0;rw [if_pos rfl];exact pair0 r i code x st w ⟨fi⟩ ⟨fc⟩
 by_cases y1 : y = 1
 ·subst y1;rw [if_neg y0,if_pos rfl];exact pair1 r i code x st w ⟨fi⟩ ⟨fc⟩
 by_cases y3 : y = 3
 ·subst y3
  rw [if_neg y0,if_neg y1,if_pos rfl]
  cases st
  ·exact pairS r i code x w ⟨fi⟩ ⟨fc⟩
  ·exact pair3 r i code x w ⟨fi⟩ ⟨fc⟩
 have y2 : y = 2 :=by omega
 subst y2
 rw [if_neg y0,if_neg y1,if_neg y3]
 by_cases x1 : x = 1
 ·subst x1;rw [if_pos rfl];exact pairI1 r i code st w ⟨fi⟩ ⟨fc⟩
 by_cases x2 : x = 2
 ·subst x2;rw [if_neg x1,if_pos rfl];exact pairI2 r i code st w ⟨fi⟩ ⟨fc⟩
 have x0 : x = 0 :=by omega
 subst x0
 rw [if_neg x1,if_neg x2]
 exact pair2 r i code st w ⟨fi⟩ ⟨fc⟩
theorem twoPutR {w : World} {g : Nat} {r : Rg} (h : RgAt w g r) (p q : Nat) (x y v : Int) (hp : r.vals.toList[p]? = some (.int .u8 x)) (hq : r.vals.toList[q]? = some (.int .u8 y)) (hpq : p ≠ q) (r1 r2 : Rg)
  (h1 : r1.vals.toList = r.vals.toList.set p (.int .u8 (v / 256 % 256))) (h2 : r2.vals.toList = r1.vals.toList.set q (.int .u8 (v % 256))) (hlt : p < 24) (hlt2 : q < 24) :
  Calls Tryz.prog 154 #[.agg #[.pointer (some ⟨g,p,none⟩),.pointer (some ⟨g,q,none⟩)],.int .u16 v] w fun e w' => e = .returned (.tuple #[]) ∧ Kp g w w' ∧ RgAt w' g r2 :=by
 refine (twoPut g p q x y v w (h.cell p _ hp) (h.cell q _ hq) (h.frz _) (h.frz _) hpq).mono ?_
 rintro e w' ⟨rfl,V,hb,rfl⟩
 exact ⟨rfl,((Kp.of_below hb).setCell p _).setCell q _,((h.under hb).set p _ r1 h1 hlt).set q _ r2 h2 hlt2⟩
theorem wholePutR {w : World} {g : Nat} {r : Rg} (h : RgAt w g r) (o b : Nat) (x v : Int) (hc : w.cell? ⟨b,0,none⟩ = some (.pointer (some ⟨g,o,none⟩))) (hp : r.vals.toList[o]? = some (.int .u16 x)) (r1 : Rg) (h1 : r1.vals.toList = r.vals.toList.set o (.int .u16 v)) (hlt : o < 24) :
  Calls Tryz.prog 152 #[.int .u16 v,.pointer (some ⟨b,0,none⟩)] w fun e w' => e = .returned (.tuple #[]) ∧ Kp g w w' ∧ RgAt w' g r1 :=by
 refine (wholePut g o b x v w hc (h.cell o _ hp) (h.frz _)).mono ?_
 rintro e w' ⟨rfl,rfl⟩
 exact ⟨rfl,(Kp.refl g w).setCell o _,h.set o _ r1 h1 hlt⟩
theorem put0 (r : Rg) (i code x : Int) (st : Bool) (v : Int) (w : World) (hi : Aside0 (ycg.f i 3 = some x)) (hc : Aside0 (ycg.f code 4 = some 0)) :
  Calls Tryz.prog 146 #[.agg r.vals,.int .i64 i,.int .i64 code,.bool st,.int .u16 v] w fun e w' => e = .returned (.agg ({ r with b :=v / 256 % 256,c :=v % 256 } : Rg).vals) ∧ Below w.heap.size w w' :=by
 go_enter Tryz.func146,Tryz.ntmps146
 go_upto_region 1 with (fail)
 refine zbs (P :=fun V => Code.wp _ _ _ _ V) w r (fun V hB hlt h h1 => ?_)
 go_wp2_with (first | (go_at_call 115;refine (ycg.calls _ _ _ _ (by first | exact hi.out | exact hc.out)).mono ?_;rintro e w' ⟨rfl,hd⟩;have hb :=zaa hd;replace h :=h.under hb;replace h1 :=h1.under hb;replace hB :=below_then hB hB.size hb;clear hb;clear hd) | (go_at_call 114;refine (reach0 _ _ _ _).mono ?_;rintro e w' ⟨rfl,hb⟩;replace h :=h.under hb;replace h1 :=h1.under hb;replace hB :=below_then hB hB.size hb;clear hb) | ((first | (go_at_call 154;refine (twoPutR h 2 3 _ _ _ rfl rfl (by decide) { r with b :=v / 256 % 256 } { r with b :=v / 256 % 256,c :=v % 256 } rfl rfl (by decide) (by decide)).mono ?_;rintro e w' ⟨rfl,hk,hr⟩;replace hB :=zaj hB hk (Nat.le_refl _) hB.size;replace h1 :=h1.kp hk (by omega);replace h :=hr) | ((with_reducible refine gate_store 24 ?_);refine zah h1 rfl _ _ rfl _ rfl rfl ?_;intro V' hk hr;replace hB :=zaj hB hk (Nat.le_succ _) hB.size;replace h1 :=hr));clear hk hr) | ((with_reducible refine gate_load 24 ?_);refine zal h rfl _ rfl rfl ?_))
 refine bodyPost_ret (zaq Tryz.results146 _ h1 rfl) rfl ?_
 exact ⟨rfl,hB⟩
theorem put1 (r : Rg) (i code x : Int) (st : Bool) (v : Int) (w : World) (hi : Aside0 (ycg.f i 3 = some x)) (hc : Aside0 (ycg.f code 4 = some 1)) :
  Calls Tryz.prog 146 #[.agg r.vals,.int .i64 i,.int .i64 code,.bool st,.int .u16 v] w fun e w' => e = .returned (.agg ({ r with d :=v / 256 % 256,e :=v % 256 } : Rg).vals) ∧ Below w.heap.size w w' :=by
 go_enter Tryz.func146,Tryz.ntmps146
 go_upto_region 1 with (fail)
 refine zbs (P :=fun V => Code.wp _ _ _ _ V) w r (fun V hB hlt h h1 => ?_)
 go_wp2_with (first | (go_at_call 115;refine (ycg.calls _ _ _ _ (by first | exact hi.out | exact hc.out)).mono ?_;rintro e w' ⟨rfl,hd⟩;have hb :=zaa hd;replace h :=h.under hb;replace h1 :=h1.under hb;replace hB :=below_then hB hB.size hb;clear hb;clear hd) | (go_at_call 114;refine (reach1 _ _ _ _).mono ?_;rintro e w' ⟨rfl,hb⟩;replace h :=h.under hb;replace h1 :=h1.under hb;replace hB :=below_then hB hB.size hb;clear hb) | ((first | (go_at_call 154;refine (twoPutR h 4 5 _ _ _ rfl rfl (by decide) { r with d :=v / 256 % 256 } { r with d :=v / 256 % 256,e :=v % 256 } rfl rfl (by decide) (by decide)).mono ?_;rintro e w' ⟨rfl,hk,hr⟩;replace hB :=zaj hB hk (Nat.le_refl _) hB.size;replace h1 :=h1.kp hk (by omega);replace h :=hr) | ((with_reducible refine gate_store 24 ?_);refine zah h1 rfl _ _ rfl _ rfl rfl ?_;intro V' hk hr;replace hB :=zaj hB hk (Nat.le_succ _) hB.size;replace h1 :=hr));clear hk hr) | ((with_reducible refine gate_load 24 ?_);refine zal h rfl _ rfl rfl ?_))
 refine bodyPost_ret (zaq Tryz.results146 _ h1 rfl) rfl ?_
 exact ⟨rfl,hB⟩
theorem put3 (r : Rg) (i code x : Int) (v : Int) (w : World) (hi : Aside0 (ycg.f i 3 = some x)) (hc : Aside0 (ycg.f code 4 = some 3)) :
  Calls Tryz.prog 146 #[.agg r.vals,.int .i64 i,.int .i64 code,.bool true,.int .u16 v] w fun e w' => e = .returned (.agg ({ r with a :=v / 256 % 256,f :=v % 256 } : Rg).vals) ∧ Below w.heap.size w w' :=by
 go_enter Tryz.func146,Tryz.ntmps146
 go_upto_region 1 with (fail)
 refine zbs (P :=fun V => Code.wp _ _ _ _ V) w r (fun V hB hlt h h1 => ?_)
 go_wp2_with (first | (go_at_call 115;refine (ycg.calls _ _ _ _ (by first | exact hi.out | exact hc.out)).mono ?_;rintro e w' ⟨rfl,hd⟩;have hb :=zaa hd;replace h :=h.under hb;replace h1 :=h1.under hb;replace hB :=below_then hB hB.size hb;clear hb;clear hd) | (go_at_call 114;refine (reach3 _ _ _).mono ?_;rintro e w' ⟨rfl,hb⟩;replace h :=h.under hb;replace h1 :=h1.under hb;replace hB :=below_then hB hB.size hb;clear hb) | ((first | (go_at_call 154;refine (twoPutR h 0 1 _ _ _ rfl rfl (by decide) { r with a :=v / 256 % 256 } { r with a :=v / 256 % 256,f :=v % 256 } rfl rfl (by decide) (by decide)).mono ?_;rintro e w' ⟨rfl,hk,hr⟩;replace hB :=zaj hB hk (Nat.le_refl _) hB.size;replace h1 :=h1.kp hk (by omega);replace h :=hr) | ((with_reducible refine gate_store 24 ?_);refine zah h1 rfl _ _ rfl _ rfl rfl ?_;intro V' hk hr;replace hB :=zaj hB hk (Nat.le_succ _) hB.size;replace h1 :=hr));clear hk hr) | ((with_reducible refine gate_load 24 ?_);refine zal h rfl _ rfl rfl ?_))
 refine bodyPost_ret (zaq Tryz.results146 _ h1 rfl) rfl ?_
 exact ⟨rfl,hB⟩
theorem put2 (r : Rg) (i code : Int) (st : Bool) (v : Int) (w : World) (hi : Aside0 (ycg.f i 3 = some 0)) (hc : Aside0 (ycg.f code 4 = some 2)) :
  Calls Tryz.prog 146 #[.agg r.vals,.int .i64 i,.int .i64 code,.bool st,.int .u16 v] w fun e w' => e = .returned (.agg ({ r with h :=v / 256 % 256,l :=v % 256 } : Rg).vals) ∧ Below w.heap.size w w' :=by
 go_enter Tryz.func146,Tryz.ntmps146
 go_upto_region 1 with (fail)
 refine zbs (P :=fun V => Code.wp _ _ _ _ V) w r (fun V hB hlt h h1 => ?_)
 go_wp2_with (first | (go_at_call 115;refine (ycg.calls _ _ _ _ (by first | exact hi.out | exact hc.out)).mono ?_;rintro e w' ⟨rfl,hd⟩;have hb :=zaa hd;replace h :=h.under hb;replace h1 :=h1.under hb;replace hB :=below_then hB hB.size hb;clear hb;clear hd) | (go_at_call 114;refine (reach2 _ _ _).mono ?_;rintro e w' ⟨rfl,hb⟩;replace h :=h.under hb;replace h1 :=h1.under hb;replace hB :=below_then hB hB.size hb;clear hb) | ((first | (go_at_call 154;refine (twoPutR h 6 7 _ _ _ rfl rfl (by decide) { r with h :=v / 256 % 256 } { r with h :=v / 256 % 256,l :=v % 256 } rfl rfl (by decide) (by decide)).mono ?_;rintro e w' ⟨rfl,hk,hr⟩;replace hB :=zaj hB hk (Nat.le_refl _) hB.size;replace h1 :=h1.kp hk (by omega);replace h :=hr) | ((with_reducible refine gate_store 24 ?_);refine zah h1 rfl _ _ rfl _ rfl rfl ?_;intro V' hk hr;replace hB :=zaj hB hk (Nat.le_succ _) hB.size;replace h1 :=hr));clear hk hr) | ((with_reducible refine gate_load 24 ?_);refine zal h rfl _ rfl rfl ?_))
 refine bodyPost_ret (zaq Tryz.results146 _ h1 rfl) rfl ?_
 exact ⟨rfl,hB⟩
theorem putS (r : Rg) (i code x : Int) (v : Int) (w : World) (hi : Aside0 (ycg.f i 3 = some x)) (hc : Aside0 (ycg.f code 4 = some 3)) :
  Calls Tryz.prog 146 #[.agg r.vals,.int .i64 i,.int .i64 code,.bool false,.int .u16 v] w fun e w' => e = .returned (.agg ({ r with sp :=v } : Rg).vals) ∧ Below w.heap.size w w' :=by
 go_enter Tryz.func146,Tryz.ntmps146
 go_upto_region 1 with (fail)
 refine zbs (P :=fun V => Code.wp _ _ _ _ V) w r (fun V hB hlt h h1 => ?_)
 go_wp2_with (first | (go_at_call 115;refine (ycg.calls _ _ _ _ (by first | exact hi.out | exact hc.out)).mono ?_;rintro e w' ⟨rfl,hd⟩;have hb :=zaa hd;replace h :=h.under hb;replace h1 :=h1.under hb;replace hB :=below_then hB hB.size hb;clear hb;clear hd) | (go_at_call 114;refine (reachS _ _ _).mono ?_;rintro e w' ⟨b,rfl,hbb,hb,hcc⟩;replace h :=h.under hb;replace h1 :=h1.under hb;replace hB :=below_then hB hB.size hb;clear hb) | ((first | (go_at_call 152;refine (wholePutR h 12 _ _ _ hcc rfl { r with sp :=v } rfl (by decide)).mono ?_;rintro e w' ⟨rfl,hk,hr⟩;replace hB :=zaj hB hk (Nat.le_refl _) hB.size;replace h1 :=h1.kp hk (by omega);replace h :=hr) | ((with_reducible refine gate_store 24 ?_);refine zah h1 rfl _ _ rfl _ rfl rfl ?_;intro V' hk hr;replace hB :=zaj hB hk (Nat.le_succ _) hB.size;replace h1 :=hr));clear hk hr) | ((with_reducible refine gate_load 24 ?_);refine zal h rfl _ rfl rfl ?_))
 refine bodyPost_ret (zaq Tryz.results146 _ h1 rfl) rfl ?_
 exact ⟨rfl,hB⟩
theorem putI1 (r : Rg) (i code : Int) (st : Bool) (v : Int) (w : World) (hi : Aside0 (ycg.f i 3 = some 1)) (hc : Aside0 (ycg.f code 4 = some 2)) :
  Calls Tryz.prog 146 #[.agg r.vals,.int .i64 i,.int .i64 code,.bool st,.int .u16 v] w fun e w' => e = .returned (.agg ({ r with ix :=v } : Rg).vals) ∧ Below w.heap.size w w' :=by
 go_enter Tryz.func146,Tryz.ntmps146
 go_upto_region 1 with (fail)
 refine zbs (P :=fun V => Code.wp _ _ _ _ V) w r (fun V hB hlt h h1 => ?_)
 go_wp2_with (first | (go_at_call 115;refine (ycg.calls _ _ _ _ (by first | exact hi.out | exact hc.out)).mono ?_;rintro e w' ⟨rfl,hd⟩;have hb :=zaa hd;replace h :=h.under hb;replace h1 :=h1.under hb;replace hB :=below_then hB hB.size hb;clear hb;clear hd) | (go_at_call 114;refine (reachI1 _ _ _).mono ?_;rintro e w' ⟨b,rfl,hbb,hb,hcc⟩;replace h :=h.under hb;replace h1 :=h1.under hb;replace hB :=below_then hB hB.size hb;clear hb) | ((first | (go_at_call 152;refine (wholePutR h 10 _ _ _ hcc rfl { r with ix :=v } rfl (by decide)).mono ?_;rintro e w' ⟨rfl,hk,hr⟩;replace hB :=zaj hB hk (Nat.le_refl _) hB.size;replace h1 :=h1.kp hk (by omega);replace h :=hr) | ((with_reducible refine gate_store 24 ?_);refine zah h1 rfl _ _ rfl _ rfl rfl ?_;intro V' hk hr;replace hB :=zaj hB hk (Nat.le_succ _) hB.size;replace h1 :=hr));clear hk hr) | ((with_reducible refine gate_load 24 ?_);refine zal h rfl _ rfl rfl ?_))
 refine bodyPost_ret (zaq Tryz.results146 _ h1 rfl) rfl ?_
 exact ⟨rfl,hB⟩
theorem putI2 (r : Rg) (i code : Int) (st : Bool) (v : Int) (w : World) (hi : Aside0 (ycg.f i 3 = some 2)) (hc : Aside0 (ycg.f code 4 = some 2)) :
  Calls Tryz.prog 146 #[.agg r.vals,.int .i64 i,.int .i64 code,.bool st,.int .u16 v] w fun e w' => e = .returned (.agg ({ r with iy :=v } : Rg).vals) ∧ Below w.heap.size w w' :=by
 go_enter Tryz.func146,Tryz.ntmps146
 go_upto_region 1 with (fail)
 refine zbs (P :=fun V => Code.wp _ _ _ _ V) w r (fun V hB hlt h h1 => ?_)
 go_wp2_with (first | (go_at_call 115;refine (ycg.calls _ _ _ _ (by first | exact hi.out | exact hc.out)).mono ?_;rintro e w' ⟨rfl,hd⟩;have hb :=zaa hd;replace h :=h.under hb;replace h1 :=h1.under hb;replace hB :=below_then hB hB.size hb;clear hb;clear hd) | (go_at_call 114;refine (reachI2 _ _ _).mono ?_;rintro e w' ⟨b,rfl,hbb,hb,hcc⟩;replace h :=h.under hb;replace h1 :=h1.under hb;replace hB :=below_then hB hB.size hb;clear hb) | ((first | (go_at_call 152;refine (wholePutR h 11 _ _ _ hcc rfl { r with iy :=v } rfl (by decide)).mono ?_;rintro e w' ⟨rfl,hk,hr⟩;replace hB :=zaj hB hk (Nat.le_refl _) hB.size;replace h1 :=h1.kp hk (by omega);replace h :=hr) | ((with_reducible refine gate_store 24 ?_);refine zah h1 rfl _ _ rfl _ rfl rfl ?_;intro V' hk hr;replace hB :=zaj hB hk (Nat.le_succ _) hB.size;replace h1 :=hr));clear hk hr) | ((with_reducible refine gate_load 24 ?_);refine zal h rfl _ rfl rfl ?_))
 refine bodyPost_ret (zaq Tryz.results146 _ h1 rfl) rfl ?_
 exact ⟨rfl,hB⟩
def Rg.putPair (r : Rg) (i c : Int) (st : Bool) (v : Int) : Rg :=
 if c = 0 then { r with b :=v / 256 % 256,c :=v % 256 } else if c = 1 then { r with d :=v / 256 % 256,e :=v % 256 } else if c = 3 then (if st = true then { r with a :=v / 256 % 256,f :=v % 256 } else { r with sp :=v })
 else if i = 1 then { r with ix :=v } else if i = 2 then { r with iy :=v } else { r with h :=v / 256 % 256,l :=v % 256 }
theorem PutPair (r : Rg) (i code : Int) (st : Bool) (v : Int) (w : World) :
  Calls Tryz.prog 146 #[.agg r.vals,.int .i64 i,.int .i64 code,.bool st,.int .u16 v] w fun e w' => e = .returned (.agg (r.putPair (rmod i 3) (rmod code 4) st v).vals) ∧ Below w.heap.size w w' :=by
 have hi :=zbp i 3 (by decide) (by decide)
 have hc :=zbp code 4 (by decide) (by decide)
 have fi :=zbq i 3 (by decide)
 have fc :=zbq code 4 (by decide)
 generalize rmod i 3 = x at hi fi ⊢
 generalize rmod code 4 = y at hc fc ⊢
 unfold Rg.putPair
 by_cases y0 : y = 0
 ·subst y0;rw [if_pos rfl];exact put0 r i code x st v w ⟨fi⟩ ⟨fc⟩
 by_cases y1 : y = 1
 ·subst y1;rw [if_neg y0,if_pos rfl];exact put1 r i code x st v w ⟨fi⟩ ⟨fc⟩
 by_cases y3 : y = 3
 ·subst y3
  rw [if_neg y0,if_neg y1,if_pos rfl]
  cases st
  ·exact putS r i code x v w ⟨fi⟩ ⟨fc⟩
  ·exact put3 r i code x v w ⟨fi⟩ ⟨fc⟩
 have y2 : y = 2 :=by omega
 subst y2
 rw [if_neg y0,if_neg y1,if_neg y3]
 by_cases x1 : x = 1
 ·subst x1;rw [if_pos rfl];exact putI1 r i code st v w ⟨fi⟩ ⟨fc⟩
 by_cases x2 : x = 2
 ·subst x2;rw [if_neg x1,if_pos rfl];exact putI2 r i code st v w ⟨fi⟩ ⟨fc⟩
 have x0 : x = 0 :=by omega
 subst x0
 rw [if_neg x1,if_neg x2]
 exact put2 r i code st v w ⟨fi⟩ ⟨fc⟩
end Go.Proofs.YtnelghpendfdmaaGreatDoor.KRow
