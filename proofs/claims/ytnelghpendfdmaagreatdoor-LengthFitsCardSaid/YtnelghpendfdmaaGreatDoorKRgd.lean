/-
 PROVED: the contracts of package regs: Swap, Cond.
-/
import Derived.Test.YtnelghpendfdmaaGreatDoorKRgc
namespace Go.Proofs.YtnelghpendfdmaaGreatDoor.KRow
set_option maxRecDepth 100000
set_option maxHeartbeats 16000000
open Go Go.RowKit Go.Proofs.YtnelghpendfdmaaGreatDoorW.PrintWords Go.Proofs.YtnelghpendfdmaaGreatDoorW.PrintLast Go.Proofs.YtnelghpendfdmaaGreatDoorW.PrintMore
open Go.Proofs.YtnelghpendfdmaaGreatDoor.HFun
set_option linter.unusedVariables false
set_option linter.unusedSimpArgs false
structure Cls2 (w : World) (r : Rg) (V : World) : Prop where
 below : Below w.heap.size w V
 size : w.heap.size + 1 < V.heap.size
 h : RgAt V w.heap.size r
 h1 : RgAt V (w.heap.size + 1) zeroRg
theorem Cls2.step {w V V' : World} {r : Rg} (c : Cls2 w r V) (hb : Below V.heap.size V V') : Cls2 w r V' :=⟨below_then c.below c.below.size hb,Nat.lt_of_lt_of_le c.size hb.size,c.h.under hb,c.h1.under hb⟩
theorem below_drew (V : World) : Below V.heap.size V V.drew :=⟨rfl,rfl,rfl,Nat.le_refl _,fun _ _ => rfl⟩
theorem swap0 (r : Rg) (i : Int) (w : World) (hi : Aside0 (ycg.f i 3 = some 0)) :
  Calls Tryz.prog 122 #[.agg r.vals,.int .i64 i] w fun e w' => e = .returned (.agg ({ r with a :=r.af / 256 % 256,f :=r.af % 256,af :=zbg r.a r.f } : Rg).vals) ∧ Below w.heap.size w w' :=by
 go_enter Tryz.func122,Tryz.ntmps122
 go_upto_region 1 with (fail)
 refine zbs (P :=fun V => Code.wp _ _ _ _ V) w r (fun V hB hlt h h1 => ?_)
 go_wp2_with (first | ((first | ((with_reducible refine gate_region 1 ?_);(refine zad (Cls2 w r) [(0,0),(2,0),(5,0),(7,0),(10,0),(12,0),(15,0),(17,0),(1,1),(3,1),(6,1),(8,1),(11,1),(13,1),(16,1),(18,1),(4,2),(9,2),(14,2)] [19,20,21,22,23] [19,20,21,22,23] 24 (by kernel_rfl) rfl rfl (by kernel_rfl) (by intro c a d v w h;cases d <;> exact h) (Cls2.step ⟨hB,hlt,h,h1⟩ (below_drew _)) (fun V hS0 => ?_));(repeat ((first | (refine Sch.pureN (v :=?_) (a' :=?_) rfl rfl (by rfl) ?_ ?_ ?_;rotate_left 2;(· (intro w';go_simp <;> with_reducible rfl))) | (refine Sch.takeN (v :=?_) (a' :=?_) rfl rfl (by rfl) hS0 ?_ ?_ ?_;rotate_left 2;(· (intro w' hS';(first | (have q :=hS'.h.cell 2 _ rfl;go_simp <;> with_reducible rfl) | (have q :=hS'.h.cell 3 _ rfl;go_simp <;> with_reducible rfl) | (have q :=hS'.h.cell 4 _ rfl;go_simp <;> with_reducible rfl) | (have q :=hS'.h.cell 5 _ rfl;go_simp <;> with_reducible rfl) | (have q :=hS'.h.cell 6 _ rfl;go_simp <;> with_reducible rfl) | (have q :=hS'.h.cell 7 _ rfl;go_simp <;> with_reducible rfl) | (have q :=hS'.h.cell 0 _ rfl;go_simp <;> with_reducible rfl) | (have q :=hS'.h.cell 1 _ rfl;go_simp <;> with_reducible rfl))))));(· (simp only [aput] <;> rfl))));(refine Sch.call (N :=(some 13)) rfl rfl Tryz.func82 (by kernel_rfl) rfl ?_ (by rfl) rfl ?_ ?_;rotate_left;(· (go_simp <;> with_reducible rfl));refine (ydh.calls _ _ _ _ (zba _ _)).mono ?_;rintro e w' ⟨rfl,hd⟩;have hb :=zaa hd;clear hd;replace hS0 :=hS0.step hb;clear hb;refine ⟨hS0,?_⟩;refine Sch.norm (a' :=?_) ?_ ?_;rotate_left;(· (simp only [aput] <;> rfl)));(refine Sch.call (N :=(some 18)) rfl rfl Tryz.func82 (by kernel_rfl) rfl ?_ (by rfl) rfl ?_ ?_;rotate_left;(· (go_simp <;> with_reducible rfl));refine (ydh.calls _ _ _ _ (zba _ _)).mono ?_;rintro e w' ⟨rfl,hd⟩;have hb :=zaa hd;clear hd;replace hS0 :=hS0.step hb;clear hb;refine ⟨hS0,?_⟩;refine Sch.norm (a' :=?_) ?_ ?_;rotate_left;(· (simp only [aput] <;> rfl)));(refine Sch.call (N :=(some 23)) rfl rfl Tryz.func82 (by kernel_rfl) rfl ?_ (by rfl) rfl ?_ ?_;rotate_left;(· (go_simp <;> with_reducible rfl));refine (ydh.calls _ _ _ _ (zba _ _)).mono ?_;rintro e w' ⟨rfl,hd⟩;have hb :=zaa hd;clear hd;replace hS0 :=hS0.step hb;clear hb;refine ⟨hS0,?_⟩;refine Sch.norm (a' :=?_) ?_ ?_;rotate_left;(· (simp only [aput] <;> rfl)));(refine Sch.tail 19 5 rfl rfl ?_;simp only [List.drop_succ_cons,List.drop_zero,List.drop_nil]);clear h h1 hB hlt;obtain ⟨hB,hlt,h,h1⟩ :=hS0) | ((first | ((with_reducible refine gate_store 5 ?_);refine zar h rfl _ _ rfl _ _ rfl rfl rfl (by decide) ?_) | ((with_reducible refine gate_store 22 ?_);refine zcd h rfl _ _ rfl _ _ rfl rfl rfl (by decide) ?_));intro V' hk hr;(try dsimp only [Rg.put] at hr);replace hB :=zaj hB hk (Nat.le_refl _) hB.size;replace h1 :=h1.kp hk (by omega);replace h :=hr;clear hk hr));(try clear c15);have c15 :=h.cell 15 _ rfl;(try dsimp only [Rg.put] at c15)) | ((first | (go_at_call 115;refine (ycg.calls _ _ _ _ (by exact hi.out)).mono ?_) | (go_at_call 82;refine (ydh.calls _ _ _ _ (zba _ _)).mono ?_) | (go_at_call 107;refine (ydr.calls _ _ _ _ (zby _)).mono ?_));rintro e w' ⟨rfl,hd⟩;have hb :=zaa hd;replace h :=h.under hb;replace h1 :=h1.under hb;replace hB :=below_then hB hB.size hb;clear hb;(try clear c15);have c15 :=h.cell 15 _ rfl;(try dsimp only [Rg.put] at c15);clear hd) | ((with_reducible refine gate_load 24 ?_);refine zal h rfl _ rfl rfl ?_) | ((with_reducible refine gate_store 24 ?_);refine zah h1 rfl _ _ rfl _ rfl rfl ?_;intro V' hk hr;replace hB :=zaj hB hk (Nat.le_succ _) hB.size;replace h1 :=hr;clear hk hr))
 refine bodyPost_ret (zaq Tryz.results122 _ h1 rfl) rfl ?_
 exact ⟨rfl,hB⟩
theorem swap1 (r : Rg) (i : Int) (w : World) (hi : Aside0 (ycg.f i 3 = some 1)) :
  Calls Tryz.prog 122 #[.agg r.vals,.int .i64 i] w fun e w' => e = .returned (.agg ({ r with b :=r.bc / 256 % 256,c :=r.bc % 256,d :=r.de / 256 % 256,e :=r.de % 256,h :=r.hl / 256 % 256,l :=r.hl % 256,bc :=zbg r.b r.c,de :=zbg r.d r.e,hl :=zbg r.h r.l } : Rg).vals) ∧ Below w.heap.size w w' :=by
 go_enter Tryz.func122,Tryz.ntmps122
 go_upto_region 1 with (fail)
 refine zbs (P :=fun V => Code.wp _ _ _ _ V) w r (fun V hB hlt h h1 => ?_)
 go_wp2_with (first | ((first | ((with_reducible refine gate_region 1 ?_);(refine zad (Cls2 w r) [(0,0),(2,0),(5,0),(7,0),(10,0),(12,0),(15,0),(17,0),(1,1),(3,1),(6,1),(8,1),(11,1),(13,1),(16,1),(18,1),(4,2),(9,2),(14,2)] [19,20,21,22,23] [19,20,21,22,23] 24 (by kernel_rfl) rfl rfl (by kernel_rfl) (by intro c a d v w h;cases d <;> exact h) (Cls2.step ⟨hB,hlt,h,h1⟩ (below_drew _)) (fun V hS0 => ?_));(repeat ((first | (refine Sch.pureN (v :=?_) (a' :=?_) rfl rfl (by rfl) ?_ ?_ ?_;rotate_left 2;(· (intro w';go_simp <;> with_reducible rfl))) | (refine Sch.takeN (v :=?_) (a' :=?_) rfl rfl (by rfl) hS0 ?_ ?_ ?_;rotate_left 2;(· (intro w' hS';(first | (have q :=hS'.h.cell 2 _ rfl;go_simp <;> with_reducible rfl) | (have q :=hS'.h.cell 3 _ rfl;go_simp <;> with_reducible rfl) | (have q :=hS'.h.cell 4 _ rfl;go_simp <;> with_reducible rfl) | (have q :=hS'.h.cell 5 _ rfl;go_simp <;> with_reducible rfl) | (have q :=hS'.h.cell 6 _ rfl;go_simp <;> with_reducible rfl) | (have q :=hS'.h.cell 7 _ rfl;go_simp <;> with_reducible rfl) | (have q :=hS'.h.cell 0 _ rfl;go_simp <;> with_reducible rfl) | (have q :=hS'.h.cell 1 _ rfl;go_simp <;> with_reducible rfl))))));(· (simp only [aput] <;> rfl))));(refine Sch.call (N :=(some 13)) rfl rfl Tryz.func82 (by kernel_rfl) rfl ?_ (by rfl) rfl ?_ ?_;rotate_left;(· (go_simp <;> with_reducible rfl));refine (ydh.calls _ _ _ _ (zba _ _)).mono ?_;rintro e w' ⟨rfl,hd⟩;have hb :=zaa hd;clear hd;replace hS0 :=hS0.step hb;clear hb;refine ⟨hS0,?_⟩;refine Sch.norm (a' :=?_) ?_ ?_;rotate_left;(· (simp only [aput] <;> rfl)));(refine Sch.call (N :=(some 18)) rfl rfl Tryz.func82 (by kernel_rfl) rfl ?_ (by rfl) rfl ?_ ?_;rotate_left;(· (go_simp <;> with_reducible rfl));refine (ydh.calls _ _ _ _ (zba _ _)).mono ?_;rintro e w' ⟨rfl,hd⟩;have hb :=zaa hd;clear hd;replace hS0 :=hS0.step hb;clear hb;refine ⟨hS0,?_⟩;refine Sch.norm (a' :=?_) ?_ ?_;rotate_left;(· (simp only [aput] <;> rfl)));(refine Sch.call (N :=(some 23)) rfl rfl Tryz.func82 (by kernel_rfl) rfl ?_ (by rfl) rfl ?_ ?_;rotate_left;(· (go_simp <;> with_reducible rfl));refine (ydh.calls _ _ _ _ (zba _ _)).mono ?_;rintro e w' ⟨rfl,hd⟩;have hb :=zaa hd;clear hd;replace hS0 :=hS0.step hb;clear hb;refine ⟨hS0,?_⟩;refine Sch.norm (a' :=?_) ?_ ?_;rotate_left;(· (simp only [aput] <;> rfl)));(refine Sch.tail 19 5 rfl rfl ?_;simp only [List.drop_succ_cons,List.drop_zero,List.drop_nil]);clear h h1 hB hlt;obtain ⟨hB,hlt,h,h1⟩ :=hS0) | ((first | ((with_reducible refine gate_store 5 ?_);refine zar h rfl _ _ rfl _ _ rfl rfl rfl (by decide) ?_) | ((with_reducible refine gate_store 22 ?_);refine zcd h rfl _ _ rfl _ _ rfl rfl rfl (by decide) ?_));intro V' hk hr;(try dsimp only [Rg.put] at hr);replace hB :=zaj hB hk (Nat.le_refl _) hB.size;replace h1 :=h1.kp hk (by omega);replace h :=hr;clear hk hr));(try clear c16);have c16 :=h.cell 16 _ rfl;(try dsimp only [Rg.put] at c16);(try clear c17);have c17 :=h.cell 17 _ rfl;(try dsimp only [Rg.put] at c17);(try clear c18);have c18 :=h.cell 18 _ rfl;(try dsimp only [Rg.put] at c18)) | ((first | (go_at_call 115;refine (ycg.calls _ _ _ _ (by exact hi.out)).mono ?_) | (go_at_call 82;refine (ydh.calls _ _ _ _ (zba _ _)).mono ?_) | (go_at_call 107;refine (ydr.calls _ _ _ _ (zby _)).mono ?_));rintro e w' ⟨rfl,hd⟩;have hb :=zaa hd;replace h :=h.under hb;replace h1 :=h1.under hb;replace hB :=below_then hB hB.size hb;clear hb;(try clear c16);have c16 :=h.cell 16 _ rfl;(try dsimp only [Rg.put] at c16);(try clear c17);have c17 :=h.cell 17 _ rfl;(try dsimp only [Rg.put] at c17);(try clear c18);have c18 :=h.cell 18 _ rfl;(try dsimp only [Rg.put] at c18);clear hd) | ((with_reducible refine gate_load 24 ?_);refine zal h rfl _ rfl rfl ?_) | ((with_reducible refine gate_store 24 ?_);refine zah h1 rfl _ _ rfl _ rfl rfl ?_;intro V' hk hr;replace hB :=zaj hB hk (Nat.le_succ _) hB.size;replace h1 :=hr;clear hk hr))
 refine bodyPost_ret (zaq Tryz.results122 _ h1 rfl) rfl ?_
 exact ⟨rfl,hB⟩
theorem swap2 (r : Rg) (i : Int) (w : World) (hi : Aside0 (ycg.f i 3 = some 2)) :
  Calls Tryz.prog 122 #[.agg r.vals,.int .i64 i] w fun e w' => e = .returned (.agg ({ r with d :=r.h,e :=r.l,h :=r.d,l :=r.e } : Rg).vals) ∧ Below w.heap.size w w' :=by
 go_enter Tryz.func122,Tryz.ntmps122
 go_upto_region 1 with (fail)
 refine zbs (P :=fun V => Code.wp _ _ _ _ V) w r (fun V hB hlt h h1 => ?_)
 go_wp2_with (first | ((first | ((with_reducible refine gate_region 1 ?_);(refine zad (Cls2 w r) [(0,0),(2,0),(5,0),(7,0),(10,0),(12,0),(15,0),(17,0),(1,1),(3,1),(6,1),(8,1),(11,1),(13,1),(16,1),(18,1),(4,2),(9,2),(14,2)] [19,20,21,22,23] [19,20,21,22,23] 24 (by kernel_rfl) rfl rfl (by kernel_rfl) (by intro c a d v w h;cases d <;> exact h) (Cls2.step ⟨hB,hlt,h,h1⟩ (below_drew _)) (fun V hS0 => ?_));(repeat ((first | (refine Sch.pureN (v :=?_) (a' :=?_) rfl rfl (by rfl) ?_ ?_ ?_;rotate_left 2;(· (intro w';go_simp <;> with_reducible rfl))) | (refine Sch.takeN (v :=?_) (a' :=?_) rfl rfl (by rfl) hS0 ?_ ?_ ?_;rotate_left 2;(· (intro w' hS';(first | (have q :=hS'.h.cell 2 _ rfl;go_simp <;> with_reducible rfl) | (have q :=hS'.h.cell 3 _ rfl;go_simp <;> with_reducible rfl) | (have q :=hS'.h.cell 4 _ rfl;go_simp <;> with_reducible rfl) | (have q :=hS'.h.cell 5 _ rfl;go_simp <;> with_reducible rfl) | (have q :=hS'.h.cell 6 _ rfl;go_simp <;> with_reducible rfl) | (have q :=hS'.h.cell 7 _ rfl;go_simp <;> with_reducible rfl) | (have q :=hS'.h.cell 0 _ rfl;go_simp <;> with_reducible rfl) | (have q :=hS'.h.cell 1 _ rfl;go_simp <;> with_reducible rfl))))));(· (simp only [aput] <;> rfl))));(refine Sch.call (N :=(some 13)) rfl rfl Tryz.func82 (by kernel_rfl) rfl ?_ (by rfl) rfl ?_ ?_;rotate_left;(· (go_simp <;> with_reducible rfl));refine (ydh.calls _ _ _ _ (zba _ _)).mono ?_;rintro e w' ⟨rfl,hd⟩;have hb :=zaa hd;clear hd;replace hS0 :=hS0.step hb;clear hb;refine ⟨hS0,?_⟩;refine Sch.norm (a' :=?_) ?_ ?_;rotate_left;(· (simp only [aput] <;> rfl)));(refine Sch.call (N :=(some 18)) rfl rfl Tryz.func82 (by kernel_rfl) rfl ?_ (by rfl) rfl ?_ ?_;rotate_left;(· (go_simp <;> with_reducible rfl));refine (ydh.calls _ _ _ _ (zba _ _)).mono ?_;rintro e w' ⟨rfl,hd⟩;have hb :=zaa hd;clear hd;replace hS0 :=hS0.step hb;clear hb;refine ⟨hS0,?_⟩;refine Sch.norm (a' :=?_) ?_ ?_;rotate_left;(· (simp only [aput] <;> rfl)));(refine Sch.call (N :=(some 23)) rfl rfl Tryz.func82 (by kernel_rfl) rfl ?_ (by rfl) rfl ?_ ?_;rotate_left;(· (go_simp <;> with_reducible rfl));refine (ydh.calls _ _ _ _ (zba _ _)).mono ?_;rintro e w' ⟨rfl,hd⟩;have hb :=zaa hd;clear hd;replace hS0 :=hS0.step hb;clear hb;refine ⟨hS0,?_⟩;refine Sch.norm (a' :=?_) ?_ ?_;rotate_left;(· (simp only [aput] <;> rfl)));(refine Sch.tail 19 5 rfl rfl ?_;simp only [List.drop_succ_cons,List.drop_zero,List.drop_nil]);clear h h1 hB hlt;obtain ⟨hB,hlt,h,h1⟩ :=hS0) | ((((with_reducible refine gate_store 5 ?_);refine zar h rfl _ _ rfl _ _ rfl rfl rfl (by decide) ?_));intro V' hk hr;(try dsimp only [Rg.put] at hr);replace hB :=zaj hB hk (Nat.le_refl _) hB.size;replace h1 :=h1.kp hk (by omega);replace h :=hr;clear hk hr));(try clear c4);have c4 :=h.cell 4 _ rfl;(try dsimp only [Rg.put] at c4);(try clear c5);have c5 :=h.cell 5 _ rfl;(try dsimp only [Rg.put] at c5);(try clear c6);have c6 :=h.cell 6 _ rfl;(try dsimp only [Rg.put] at c6);(try clear c7);have c7 :=h.cell 7 _ rfl;(try dsimp only [Rg.put] at c7)) | ((first | (go_at_call 115;refine (ycg.calls _ _ _ _ (by exact hi.out)).mono ?_) | (go_at_call 82;refine (ydh.calls _ _ _ _ (zba _ _)).mono ?_));rintro e w' ⟨rfl,hd⟩;have hb :=zaa hd;replace h :=h.under hb;replace h1 :=h1.under hb;replace hB :=below_then hB hB.size hb;clear hb;(try clear c4);have c4 :=h.cell 4 _ rfl;(try dsimp only [Rg.put] at c4);(try clear c5);have c5 :=h.cell 5 _ rfl;(try dsimp only [Rg.put] at c5);(try clear c6);have c6 :=h.cell 6 _ rfl;(try dsimp only [Rg.put] at c6);(try clear c7);have c7 :=h.cell 7 _ rfl;(try dsimp only [Rg.put] at c7);clear hd) | ((with_reducible refine gate_load 24 ?_);refine zal h rfl _ rfl rfl ?_) | ((with_reducible refine gate_store 24 ?_);refine zah h1 rfl _ _ rfl _ rfl rfl ?_;intro V' hk hr;replace hB :=zaj hB hk (Nat.le_succ _) hB.size;replace h1 :=hr;clear hk hr))
 refine bodyPost_ret (zaq Tryz.results122 _ h1 rfl) rfl ?_
 exact ⟨rfl,hB⟩
def Rg.swap (r : Rg) (x : Int) : Rg :=
 if x = 0 then { r with a :=r.af / 256 % 256,f :=r.af % 256,af :=zbg r.a r.f }
 else if x = 1 then { r with b :=r.bc / 256 % 256,c :=r.bc % 256,d :=r.de / 256 % 256,e :=r.de % 256,h :=r.hl / 256 % 256,l :=r.hl % 256,bc :=zbg r.b r.c,de :=zbg r.d r.e,hl :=zbg r.h r.l }
 else { r with d :=r.h,e :=r.l,h :=r.d,l :=r.e }
theorem Swap (r : Rg) (i : Int) (w : World) :
  Calls Tryz.prog 122 #[.agg r.vals,.int .i64 i] w fun e w' => e = .returned (.agg (r.swap (rmod i 3)).vals) ∧ Below w.heap.size w w' :=by
 have hi :=zbp i 3 (by decide) (by decide)
 have fi :=zbq i 3 (by decide)
 generalize rmod i 3 = x at hi fi ⊢
 by_cases x0 : x = 0
 ·subst x0;exact swap0 r i w ⟨fi⟩
 by_cases x1 : x = 1
 ·subst x1;exact swap1 r i w ⟨fi⟩
 obtain rfl : x = 2 :=by omega
 exact swap2 r i w ⟨fi⟩
def condBit (c : Int) : Int :=if c / 2 = 0 then 64 else if c / 2 = 1 then 1 else if c / 2 = 2 then 4 else 128
def rcond (f c : Int) : Bool :=(Go.bits .and .u8 f (condBit c) != 0) == decide (c % 2 = 1)
theorem cond_0 (f code : Int) (w : World) (hi : Aside0 (ycg.f code 8 = some 0)) :
  Calls Tryz.prog 158 #[.int .u8 f,.int .i64 code] w fun e w' => e = .returned (.bool (rcond f 0)) ∧ Below w.heap.size w w' :=by
 have hix : ∀ w : World,(Instr.index 168 (.agg #[.int .u8 64,.int .u8 1,.int .u8 4,.int .u8 128]) (.int .i64 0)).run Tryz.prog w = .ok (.int .u8 64) w :=fun _ => rfl
 have hd : Int.tdiv 0 2 = 0 :=rfl
 have hm : Int.tmod 0 2 = 0 :=rfl
 go_enter Tryz.func158,Tryz.ntmps158
 go_wp2_with (go_at_call 115;refine (ycg.calls _ _ _ _ (by exact hi.out)).mono ?_;rintro e w' ⟨rfl,hd⟩;have hb :=zaa hd;clear hd)
 go_ret
 exact ⟨by (simp [rcond,condBit];done),hb⟩
theorem cond_1 (f code : Int) (w : World) (hi : Aside0 (ycg.f code 8 = some 1)) :
  Calls Tryz.prog 158 #[.int .u8 f,.int .i64 code] w fun e w' => e = .returned (.bool (rcond f 1)) ∧ Below w.heap.size w w' :=by
 have hix : ∀ w : World,(Instr.index 168 (.agg #[.int .u8 64,.int .u8 1,.int .u8 4,.int .u8 128]) (.int .i64 0)).run Tryz.prog w = .ok (.int .u8 64) w :=fun _ => rfl
 have hd : Int.tdiv 1 2 = 0 :=rfl
 have hm : Int.tmod 1 2 = 1 :=rfl
 go_enter Tryz.func158,Tryz.ntmps158
 go_wp2_with (go_at_call 115;refine (ycg.calls _ _ _ _ (by exact hi.out)).mono ?_;rintro e w' ⟨rfl,hd⟩;have hb :=zaa hd;clear hd)
 go_ret
 exact ⟨by (simp [rcond,condBit];done),hb⟩
theorem cond_2 (f code : Int) (w : World) (hi : Aside0 (ycg.f code 8 = some 2)) :
  Calls Tryz.prog 158 #[.int .u8 f,.int .i64 code] w fun e w' => e = .returned (.bool (rcond f 2)) ∧ Below w.heap.size w w' :=by
 have hix : ∀ w : World,(Instr.index 168 (.agg #[.int .u8 64,.int .u8 1,.int .u8 4,.int .u8 128]) (.int .i64 1)).run Tryz.prog w = .ok (.int .u8 1) w :=fun _ => rfl
 have hd : Int.tdiv 2 2 = 1 :=rfl
 have hm : Int.tmod 2 2 = 0 :=rfl
 go_enter Tryz.func158,Tryz.ntmps158
 go_wp2_with (go_at_call 115;refine (ycg.calls _ _ _ _ (by exact hi.out)).mono ?_;rintro e w' ⟨rfl,hd⟩;have hb :=zaa hd;clear hd)
 go_ret
 exact ⟨by (simp [rcond,condBit];done),hb⟩
theorem cond_3 (f code : Int) (w : World) (hi : Aside0 (ycg.f code 8 = some 3)) :
  Calls Tryz.prog 158 #[.int .u8 f,.int .i64 code] w fun e w' => e = .returned (.bool (rcond f 3)) ∧ Below w.heap.size w w' :=by
 have hix : ∀ w : World,(Instr.index 168 (.agg #[.int .u8 64,.int .u8 1,.int .u8 4,.int .u8 128]) (.int .i64 1)).run Tryz.prog w = .ok (.int .u8 1) w :=fun _ => rfl
 have hd : Int.tdiv 3 2 = 1 :=rfl
 have hm : Int.tmod 3 2 = 1 :=rfl
 go_enter Tryz.func158,Tryz.ntmps158
 go_wp2_with (go_at_call 115;refine (ycg.calls _ _ _ _ (by exact hi.out)).mono ?_;rintro e w' ⟨rfl,hd⟩;have hb :=zaa hd;clear hd)
 go_ret
 exact ⟨by (simp [rcond,condBit];done),hb⟩
theorem cond_4 (f code : Int) (w : World) (hi : Aside0 (ycg.f code 8 = some 4)) :
  Calls Tryz.prog 158 #[.int .u8 f,.int .i64 code] w fun e w' => e = .returned (.bool (rcond f 4)) ∧ Below w.heap.size w w' :=by
 have hix : ∀ w : World,(Instr.index 168 (.agg #[.int .u8 64,.int .u8 1,.int .u8 4,.int .u8 128]) (.int .i64 2)).run Tryz.prog w = .ok (.int .u8 4) w :=fun _ => rfl
 have hd : Int.tdiv 4 2 = 2 :=rfl
 have hm : Int.tmod 4 2 = 0 :=rfl
 go_enter Tryz.func158,Tryz.ntmps158
 go_wp2_with (go_at_call 115;refine (ycg.calls _ _ _ _ (by exact hi.out)).mono ?_;rintro e w' ⟨rfl,hd⟩;have hb :=zaa hd;clear hd)
 go_ret
 exact ⟨by (simp [rcond,condBit];done),hb⟩
theorem cond_5 (f code : Int) (w : World) (hi : Aside0 (ycg.f code 8 = some 5)) :
  Calls Tryz.prog 158 #[.int .u8 f,.int .i64 code] w fun e w' => e = .returned (.bool (rcond f 5)) ∧ Below w.heap.size w w' :=by
 have hix : ∀ w : World,(Instr.index 168 (.agg #[.int .u8 64,.int .u8 1,.int .u8 4,.int .u8 128]) (.int .i64 2)).run Tryz.prog w = .ok (.int .u8 4) w :=fun _ => rfl
 have hd : Int.tdiv 5 2 = 2 :=rfl
 have hm : Int.tmod 5 2 = 1 :=rfl
 go_enter Tryz.func158,Tryz.ntmps158
 go_wp2_with (go_at_call 115;refine (ycg.calls _ _ _ _ (by exact hi.out)).mono ?_;rintro e w' ⟨rfl,hd⟩;have hb :=zaa hd;clear hd)
 go_ret
 exact ⟨by (simp [rcond,condBit];done),hb⟩
theorem cond_6 (f code : Int) (w : World) (hi : Aside0 (ycg.f code 8 = some 6)) :
  Calls Tryz.prog 158 #[.int .u8 f,.int .i64 code] w fun e w' => e = .returned (.bool (rcond f 6)) ∧ Below w.heap.size w w' :=by
 have hix : ∀ w : World,(Instr.index 168 (.agg #[.int .u8 64,.int .u8 1,.int .u8 4,.int .u8 128]) (.int .i64 3)).run Tryz.prog w = .ok (.int .u8 128) w :=fun _ => rfl
 have hd : Int.tdiv 6 2 = 3 :=rfl
 have hm : Int.tmod 6 2 = 0 :=rfl
 go_enter Tryz.func158,Tryz.ntmps158
 go_wp2_with (go_at_call 115;refine (ycg.calls _ _ _ _ (by exact hi.out)).mono ?_;rintro e w' ⟨rfl,hd⟩;have hb :=zaa hd;clear hd)
 go_ret
 exact ⟨by (simp [rcond,condBit];done),hb⟩
theorem cond_7 (f code : Int) (w : World) (hi : Aside0 (ycg.f code 8 = some 7)) :
  Calls Tryz.prog 158 #[.int .u8 f,.int .i64 code] w fun e w' => e = .returned (.bool (rcond f 7)) ∧ Below w.heap.size w w' :=by
 have hix : ∀ w : World,(Instr.index 168 (.agg #[.int .u8 64,.int .u8 1,.int .u8 4,.int .u8 128]) (.int .i64 3)).run Tryz.prog w = .ok (.int .u8 128) w :=fun _ => rfl
 have hd : Int.tdiv 7 2 = 3 :=rfl
 have hm : Int.tmod 7 2 = 1 :=rfl
 go_enter Tryz.func158,Tryz.ntmps158
 go_wp2_with (go_at_call 115;refine (ycg.calls _ _ _ _ (by exact hi.out)).mono ?_;rintro e w' ⟨rfl,hd⟩;have hb :=zaa hd;clear hd)
 go_ret
 exact ⟨by (simp [rcond,condBit];done),hb⟩
theorem Cond (f code : Int) (w : World) :
  Calls Tryz.prog 158 #[.int .u8 f,.int .i64 code] w fun e w' => e = .returned (.bool (rcond f (rmod code 8))) ∧ Below w.heap.size w w' :=by
 have hi :=zbp code 8 (by decide) (by decide)
 have fi :=zbq code 8 (by decide)
 generalize rmod code 8 = x at hi fi ⊢
 by_cases x0 : x = 0
 ·subst x0;exact cond_0 f code w ⟨fi⟩
 by_cases x1 : x = 1
 ·subst x1;exact cond_1 f code w ⟨fi⟩
 by_cases x2 : x = 2
 ·subst x2;exact cond_2 f code w ⟨fi⟩
 by_cases x3 : x = 3
 ·subst x3;exact cond_3 f code w ⟨fi⟩
 by_cases x4 : x = 4
 ·subst x4;exact cond_4 f code w ⟨fi⟩
 by_cases x5 : x = 5
 ·subst x5;exact cond_5 f code w ⟨fi⟩
 by_cases x6 : x = 6
 ·subst x6;exact cond_6 f code w ⟨fi⟩
 obtain rfl : x = 7 :=by omega
 exact cond_7 f code w ⟨fi⟩
end Go.Proofs.YtnelghpendfdmaaGreatDoor.KRow
