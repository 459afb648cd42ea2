/-
 PROVED: the contracts of the row's methods low.
-/
import Derived.Test.YtnelghpendfdmaaGreatDoorKMc
import Derived.Test.YtnelghpendfdmaaGreatDoorKPl
namespace Go.Proofs.YtnelghpendfdmaaGreatDoor.KRow
set_option maxRecDepth 100000
set_option maxHeartbeats 16000000
open Go Go.RowKit Go.Proofs.YtnelghpendfdmaaGreatDoorW.PrintWords Go.Proofs.YtnelghpendfdmaaGreatDoorW.PrintLast Go.Proofs.YtnelghpendfdmaaGreatDoorW.PrintMore
open Go.Proofs.YtnelghpendfdmaaGreatDoor.HFun
set_option linter.unusedVariables false
set_option linter.unusedSimpArgs false
theorem low0 {W : World} {g : Nat} {A : Option Addr} {gl : List Int} {cp n : Nat} {ρ : Rw} (h : RowAt W g A gl cp n ρ) (op y p q : Int) :
  Calls Tryz.prog 91 #[.pointer (some ⟨g,0,none⟩),.int .i64 op,.int .i64 y,.int .i64 0,.int .i64 p,.int .i64 q] W (Post W g A gl cp (fun _ : Unit => .tuple #[]) (Tr.run gl (ρ.low0 y) n)) :=by
 obtain ⟨o,ho⟩ : ∃ o,o = Tr.run gl (ρ.low0 y) n :=⟨_,rfl⟩
 rw [← ho]
 have hs :=ho
 clear ho
 unfold Rw.low0 decB at hs
 replace hs :=Aside0.mk hs
 have HK :=Aside0.mk (Kp.refl g W)
 replace h :=Aside0.mk h
 skip;have c1 :=h.out.cell 1 _ rfl;have c2 :=h.out.cell 2 _ rfl;(try dsimp only [Rw.put,Rw.regs,Rw.fetched] at c1 c2)
 go_enter Tryz.func91,Tryz.ntmps91
 go_wp2_with (first | ((first | ((first | ((first | go_at_call 85 | go_at_call 84 | go_at_call 123);(try (repeat (split at hs <;> first | (exfalso;(simp_all;done)) | skip)));(first | (go_at_call 85;refine Post.cpsA (idle h.out _) ?_ ?_) | (go_at_call 84;refine Post.cpsA (next h.out) ?_ ?_) | (go_at_call 123;refine Post.cpsA (jump h.out _) ?_ ?_));(· exact (fun k a v t V ho hk => ⟨rfl,Post.asks (hs.out.trans (Tr.run_ask ho)) (HK.out.trans hk)⟩));intro v ρ1 n1 V ho hk hR;replace hs :=Aside0.mk (hs.out.trans (Tr.run_ok ho));(first | (have hi :=zbd ho;subst hi) | (have hi :=zcc ho;subst hi));clear ho) | (go_at_call 124;refine (cond h.out _).mono ?_;rintro e V ⟨hk,rfl,hR⟩) | ((first | ((with_reducible refine gate_store 5 ?_);refine zas h.out rfl _ _ rfl _ _ rfl rfl rfl (by decide) ?_) | ((with_reducible refine gate_store 24 ?_);refine zaz h.out rfl _ _ rfl _ rfl rfl ?_));intro V hk hR));(try dsimp only [Rw.put,Rw.regs,Rw.fetched] at hR);replace h :=Aside0.mk hR;replace HK :=Aside0.mk (HK.out.trans hk);clear hR hk) | (go_at_call 122;refine (Swap _ _ _).mono ?_;rintro e V ⟨rfl,hb⟩;replace h :=Aside0.mk (h.out.under hb);replace HK :=Aside0.mk (HK.out.andBelow hb);clear hb));(try clear c1 c2);skip;have c1 :=h.out.cell 1 _ rfl;have c2 :=h.out.cell 2 _ rfl;(try dsimp only [Rw.put,Rw.regs,Rw.fetched] at c1 c2)) | ((with_reducible refine gate_load 24 ?_);refine zay h.out rfl _ rfl rfl ?_))
 all_goals (try (repeat (split at hs <;> first | (exfalso;(simp_all;done)) | skip)))
 all_goals ((go_end0;exact Post.done (enc :=fun _ : Unit => Value.tuple #[]) hs.out HK.out h.out))
theorem low1 {W : World} {g : Nat} {A : Option Addr} {gl : List Int} {cp n : Nat} {ρ : Rw} (h : RowAt W g A gl cp n ρ) (op y p q : Int) :
  Calls Tryz.prog 91 #[.pointer (some ⟨g,0,none⟩),.int .i64 op,.int .i64 y,.int .i64 1,.int .i64 p,.int .i64 q] W (Post W g A gl cp (fun _ : Unit => .tuple #[]) (Tr.run gl (ρ.low1 p q) n)) :=by
 obtain ⟨o,ho⟩ : ∃ o,o = Tr.run gl (ρ.low1 p q) n :=⟨_,rfl⟩
 rw [← ho]
 have hs :=ho
 clear ho
 unfold Rw.low1 at hs
 replace hs :=Aside0.mk hs
 have HK :=Aside0.mk (Kp.refl g W)
 replace h :=Aside0.mk h
 skip;have c1 :=h.out.cell 1 _ rfl;(try dsimp only [Rw.put,Rw.regs,Rw.fetched] at c1)
 go_enter Tryz.func91,Tryz.ntmps91
 go_wp2_with ((((first | ((first | ((first | go_at_call 125 | go_at_call 109 | go_at_call 85);(try (repeat (split at hs <;> first | (exfalso;(simp_all;done)) | skip)));(first | (go_at_call 125;refine Post.cpsA (word h.out) ?_ ?_) | (go_at_call 109;refine Post.cpsA (putPair h.out _ _ _) ?_ ?_) | (go_at_call 85;refine Post.cpsA (idle h.out _) ?_ ?_));(· exact (fun k a v t V ho hk => ⟨rfl,Post.asks (hs.out.trans (Tr.run_ask ho)) (HK.out.trans hk)⟩));intro v ρ1 n1 V ho hk hR;replace hs :=Aside0.mk (hs.out.trans (Tr.run_ok ho));(first | (have hi :=word_inv ho;subst hi) | (have hi :=putPair_inv ho;subst hi) | (have hi :=zbd ho;subst hi));clear ho) | (go_at_call 105;refine (pair h.out _ _).mono ?_;rintro e V ⟨hk,rfl,hR⟩) | ((first | ((with_reducible refine gate_store 22 ?_);refine zae h.out rfl _ _ rfl _ _ rfl rfl rfl (by decide) ?_) | ((with_reducible refine gate_store 5 ?_);refine zas h.out rfl _ _ rfl _ _ rfl rfl rfl (by decide) ?_));intro V hk hR));(try dsimp only [Rw.put,Rw.regs,Rw.fetched] at hR);replace h :=Aside0.mk hR;replace HK :=Aside0.mk (HK.out.trans hk);clear hR hk) | ((with_reducible refine gate_region 35 ?_);(refine zad (RC g W A gl cp _ _) [(0,0),(1,0),(2,0),(4,0),(5,0),(6,0),(7,1),(3,2),(8,2),(9,0),(10,0),(11,0)] [12,13] [12,13] 14 (by kernel_rfl) rfl rfl (by kernel_rfl) (by intro c a d v w h;cases d <;> exact h) (RC.mk (HK.out.drewN 1) (h.out.drewN 1)) (fun V hS0 => ?_));(repeat ((first | (refine Sch.pureN (v :=?_) (a' :=?_) rfl rfl (by rfl) ?_ ?_ ?_;rotate_left 2;(· (intro w';go_simp <;> with_reducible rfl))) | (refine Sch.takeN (v :=?_) (a' :=?_) rfl rfl (by rfl) hS0 ?_ ?_ ?_;rotate_left 2;(· (intro w' hS';(have q :=hS'.row.cell 1 _ rfl;(try dsimp only [Rw.put,Rw.regs,Rw.fetched] at q);go_simp <;> with_reducible rfl)))));(· (simp only [aput] <;> rfl))));(refine Sch.call (N :=(some 187)) rfl rfl Tryz.func105 (by kernel_rfl) rfl ?_ (by rfl) rfl ?_ ?_;rotate_left;(· (go_simp <;> with_reducible rfl));refine (pair hS0.row _ _).mono ?_;rintro e V ⟨hk,rfl,hR⟩;replace hS0 :=RC.mk (hS0.kp.trans hk) hR;clear hk hR;refine ⟨hS0,?_⟩;refine Sch.norm (a' :=?_) ?_ ?_;rotate_left;(· (simp only [aput] <;> rfl)));(refine Sch.call (N :=(some 192)) rfl rfl Tryz.func126 (by kernel_rfl) rfl ?_ (by rfl) rfl ?_ ?_;rotate_left;(· (go_simp <;> with_reducible rfl));refine (c_wide_Add _ _ _ _).mono ?_;rintro e V ⟨rfl,hb⟩;replace hS0 :=hS0.step hb;clear hb;refine ⟨hS0,?_⟩;refine Sch.norm (a' :=?_) ?_ ?_;rotate_left;(· (simp only [aput] <;> rfl)));(repeat ((refine Sch.pureN (v :=?_) (a' :=?_) rfl rfl (by rfl) ?_ ?_ ?_;rotate_left 2;(· (intro w';go_simp <;> with_reducible rfl)));(· (simp only [aput] <;> rfl))));(refine Sch.tail 12 2 rfl rfl ?_;simp only [List.drop_succ_cons,List.drop_zero,List.drop_nil]);clear h HK;have h :=Aside0.mk hS0.row;have HK :=Aside0.mk hS0.kp;clear hS0));(try clear c1);skip;have c1 :=h.out.cell 1 _ rfl;(try dsimp only [Rw.put,Rw.regs,Rw.fetched] at c1))))
 all_goals ((go_end0;exact Post.done (enc :=fun _ : Unit => Value.tuple #[]) hs.out HK.out h.out))
theorem low2 {W : World} {g : Nat} {A : Option Addr} {gl : List Int} {cp n : Nat} {ρ : Rw} (h : RowAt W g A gl cp n ρ) (op y p q : Int) :
  Calls Tryz.prog 91 #[.pointer (some ⟨g,0,none⟩),.int .i64 op,.int .i64 y,.int .i64 2,.int .i64 p,.int .i64 q] W (Post W g A gl cp (fun _ : Unit => .tuple #[]) (Tr.run gl ((ρ.moves op p).bind fun _ ρ => .ret () ρ) n)) :=by
 obtain ⟨o,ho⟩ : ∃ o,o = Tr.run gl ((ρ.moves op p).bind fun _ ρ => .ret () ρ) n :=⟨_,rfl⟩
 rw [← ho]
 have hs :=ho
 clear ho
 replace hs :=Aside0.mk hs
 have HK :=Aside0.mk (Kp.refl g W)
 replace h :=Aside0.mk h
 skip;skip
 go_enter Tryz.func91,Tryz.ntmps91
 go_wp2_with (go_at_call 127;  refine Post.cpsA (moves h.out _ _) ?_ ?_;(· exact (fun k a v t V ho hk => ⟨rfl,Post.asks (hs.out.trans (Tr.run_ask ho)) (HK.out.trans hk)⟩));intro v ρ1 n1 V ho hk hR;replace hs :=Aside0.mk (hs.out.trans (Tr.run_ok ho));clear ho;(try dsimp only [Rw.put,Rw.regs,Rw.fetched] at hR);replace h :=Aside0.mk hR;replace HK :=Aside0.mk (HK.out.trans hk);clear hR hk;skip;skip;skip)
 all_goals ((go_end0;exact Post.done (enc :=fun _ : Unit => Value.tuple #[]) hs.out HK.out h.out))
theorem low3 {W : World} {g : Nat} {A : Option Addr} {gl : List Int} {cp n : Nat} {ρ : Rw} (h : RowAt W g A gl cp n ρ) (op y p q : Int) :
  Calls Tryz.prog 91 #[.pointer (some ⟨g,0,none⟩),.int .i64 op,.int .i64 y,.int .i64 3,.int .i64 p,.int .i64 q] W (Post W g A gl cp (fun _ : Unit => .tuple #[]) (Tr.run gl (ρ.low3 p q) n)) :=by
 obtain ⟨o,ho⟩ : ∃ o,o = Tr.run gl (ρ.low3 p q) n :=⟨_,rfl⟩
 rw [← ho]
 have hs :=ho
 clear ho
 unfold Rw.low3 at hs
 replace hs :=Aside0.mk hs
 have HK :=Aside0.mk (Kp.refl g W)
 replace h :=Aside0.mk h
 skip;skip
 go_enter Tryz.func91,Tryz.ntmps91
 go_wp2_with ((first | ((first | go_at_call 85 | go_at_call 109);  (first | (go_at_call 85;refine Post.cpsA (idle h.out _) ?_ ?_) | (go_at_call 109;refine Post.cpsA (putPair h.out _ _ _) ?_ ?_));(· exact (fun k a v t V ho hk => ⟨rfl,Post.asks (hs.out.trans (Tr.run_ask ho)) (HK.out.trans hk)⟩));intro v ρ1 n1 V ho hk hR;replace hs :=Aside0.mk (hs.out.trans (Tr.run_ok ho));(first | (have hi :=zbd ho;subst hi) | (have hi :=putPair_inv ho;subst hi));clear ho) | (go_at_call 105;refine (pair h.out _ _).mono ?_;rintro e V ⟨hk,rfl,hR⟩));(try dsimp only [Rw.put,Rw.regs,Rw.fetched] at hR);replace h :=Aside0.mk hR;replace HK :=Aside0.mk (HK.out.trans hk);clear hR hk;skip;skip;skip)
 all_goals ((go_end0;exact Post.done (enc :=fun _ : Unit => Value.tuple #[]) hs.out HK.out h.out))
theorem low4 {W : World} {g : Nat} {A : Option Addr} {gl : List Int} {cp n : Nat} {ρ : Rw} (h : RowAt W g A gl cp n ρ) (op y p q : Int) :
  Calls Tryz.prog 91 #[.pointer (some ⟨g,0,none⟩),.int .i64 op,.int .i64 y,.int .i64 4,.int .i64 p,.int .i64 q] W (Post W g A gl cp (fun _ : Unit => .tuple #[]) (Tr.run gl (ρ.low45 y 4) n)) :=by
 obtain ⟨o,ho⟩ : ∃ o,o = Tr.run gl (ρ.low45 y 4) n :=⟨_,rfl⟩
 rw [← ho]
 have hs :=ho
 clear ho
 unfold Rw.low45 at hs
 replace hs :=Aside0.mk hs
 have HK :=Aside0.mk (Kp.refl g W)
 replace h :=Aside0.mk h
 skip;have c1 :=h.out.cell 1 _ rfl;have c29 :=h.out.cell 29 _ rfl;(try dsimp only [Rw.put,Rw.regs,Rw.fetched] at c1 c29)
 go_enter Tryz.func91,Tryz.ntmps91
 go_wp2_with ((first | ((first | ((first | go_at_call 95 | go_at_call 85 | go_at_call 89 | go_at_call 94);(try (repeat (split at hs <;> first | (exfalso;contradiction) | skip)));(first | (go_at_call 95;refine Post.cpsA (get h.out _) ?_ ?_) | (go_at_call 85;refine Post.cpsA (idle h.out _) ?_ ?_) | (go_at_call 89;refine Post.cpsA (write h.out _ _) ?_ ?_) | (go_at_call 94;refine Post.cpsA (put h.out _ _) ?_ ?_));(· exact (fun k a v t V ho hk => ⟨rfl,Post.asks (hs.out.trans (Tr.run_ask ho)) (HK.out.trans hk)⟩));intro v ρ1 n1 V ho hk hR;replace hs :=Aside0.mk (hs.out.trans (Tr.run_ok ho));(first | (have hi :=zbd ho;subst hi) | (have hi :=zbh ho;subst hi) | (have hi :=put8_inv ho;subst hi) | skip);clear ho) | ((((with_reducible refine gate_store 5 ?_);refine zas h.out rfl _ _ rfl _ _ rfl rfl rfl (by decide) ?_));intro V hk hR));(try dsimp only [Rw.put,Rw.regs,Rw.fetched] at hR);replace h :=Aside0.mk hR;replace HK :=Aside0.mk (HK.out.trans hk);clear hR hk) | (((go_at_call 128;refine (c_alu_Inc _ _ _).mono ?_));rintro e V ⟨rfl,hb⟩;replace h :=Aside0.mk (h.out.under hb);replace HK :=Aside0.mk (HK.out.andBelow hb);clear hb));(try clear c1 c29);skip;have c1 :=h.out.cell 1 _ rfl;have c29 :=h.out.cell 29 _ rfl;(try dsimp only [Rw.put,Rw.regs,Rw.fetched] at c1 c29))
 all_goals ((go_end0;exact Post.done (enc :=fun _ : Unit => Value.tuple #[]) hs.out HK.out h.out))
theorem low5 {W : World} {g : Nat} {A : Option Addr} {gl : List Int} {cp n : Nat} {ρ : Rw} (h : RowAt W g A gl cp n ρ) (op y p q : Int) :
  Calls Tryz.prog 91 #[.pointer (some ⟨g,0,none⟩),.int .i64 op,.int .i64 y,.int .i64 5,.int .i64 p,.int .i64 q] W (Post W g A gl cp (fun _ : Unit => .tuple #[]) (Tr.run gl (ρ.low45 y 5) n)) :=by
 obtain ⟨o,ho⟩ : ∃ o,o = Tr.run gl (ρ.low45 y 5) n :=⟨_,rfl⟩
 rw [← ho]
 have hs :=ho
 clear ho
 unfold Rw.low45 at hs
 replace hs :=Aside0.mk hs
 have HK :=Aside0.mk (Kp.refl g W)
 replace h :=Aside0.mk h
 skip;have c1 :=h.out.cell 1 _ rfl;have c29 :=h.out.cell 29 _ rfl;(try dsimp only [Rw.put,Rw.regs,Rw.fetched] at c1 c29)
 go_enter Tryz.func91,Tryz.ntmps91
 go_wp2_with ((first | ((first | ((first | go_at_call 95 | go_at_call 85 | go_at_call 89 | go_at_call 94);(try (repeat (split at hs <;> first | (exfalso;contradiction) | skip)));(first | (go_at_call 95;refine Post.cpsA (get h.out _) ?_ ?_) | (go_at_call 85;refine Post.cpsA (idle h.out _) ?_ ?_) | (go_at_call 89;refine Post.cpsA (write h.out _ _) ?_ ?_) | (go_at_call 94;refine Post.cpsA (put h.out _ _) ?_ ?_));(· exact (fun k a v t V ho hk => ⟨rfl,Post.asks (hs.out.trans (Tr.run_ask ho)) (HK.out.trans hk)⟩));intro v ρ1 n1 V ho hk hR;replace hs :=Aside0.mk (hs.out.trans (Tr.run_ok ho));(first | (have hi :=zbd ho;subst hi) | (have hi :=zbh ho;subst hi) | (have hi :=put8_inv ho;subst hi) | skip);clear ho) | ((((with_reducible refine gate_store 5 ?_);refine zas h.out rfl _ _ rfl _ _ rfl rfl rfl (by decide) ?_));intro V hk hR));(try dsimp only [Rw.put,Rw.regs,Rw.fetched] at hR);replace h :=Aside0.mk hR;replace HK :=Aside0.mk (HK.out.trans hk);clear hR hk) | (((go_at_call 129;refine (c_alu_Dec _ _ _).mono ?_));rintro e V ⟨rfl,hb⟩;replace h :=Aside0.mk (h.out.under hb);replace HK :=Aside0.mk (HK.out.andBelow hb);clear hb));(try clear c1 c29);skip;have c1 :=h.out.cell 1 _ rfl;have c29 :=h.out.cell 29 _ rfl;(try dsimp only [Rw.put,Rw.regs,Rw.fetched] at c1 c29))
 all_goals ((go_end0;exact Post.done (enc :=fun _ : Unit => Value.tuple #[]) hs.out HK.out h.out))
theorem low6a {W : World} {g : Nat} {A : Option Addr} {gl : List Int} {cp n : Nat} {ρ : Rw} (h : RowAt W g A gl cp n ρ) (op y p q : Int) (hx : ρ.x = 0) :
  Calls Tryz.prog 91 #[.pointer (some ⟨g,0,none⟩),.int .i64 op,.int .i64 y,.int .i64 6,.int .i64 p,.int .i64 q] W (Post W g A gl cp (fun _ : Unit => .tuple #[]) (Tr.run gl (ρ.low6 y) n)) :=by
 obtain ⟨o,ho⟩ : ∃ o,o = Tr.run gl (ρ.low6 y) n :=⟨_,rfl⟩
 rw [← ho]
 have hs :=ho
 clear ho
 unfold Rw.low6 at hs
 obtain ⟨rg,pk,xx,di,ad⟩ :=ρ
 have hx : xx = 0 :=hx
 subst hx
 replace hs :=Aside0.mk hs
 have HK :=Aside0.mk (Kp.refl g W)
 replace h :=Aside0.mk h
 skip;have c14 :=h.out.cell 14 _ rfl;have c27 :=h.out.cell 27 _ rfl;(try dsimp only [Rw.put,Rw.regs,Rw.fetched] at c14 c27)
 go_enter Tryz.func91,Tryz.ntmps91
 go_wp2_with (((((first | ((first | go_at_call 84 | go_at_call 94 | go_at_call 89);(try (repeat (split at hs <;> first | (exfalso;(simp_all;done)) | skip)));(first | (go_at_call 84;refine Post.cpsA (next h.out) ?_ ?_) | (go_at_call 94;refine Post.cpsA (put h.out _ _) ?_ ?_) | (go_at_call 89;refine Post.cpsA (write h.out _ _) ?_ ?_));(· exact (fun k a v t V ho hk => ⟨rfl,Post.asks (hs.out.trans (Tr.run_ask ho)) (HK.out.trans hk)⟩));intro v ρ1 n1 V ho hk hR;replace hs :=Aside0.mk (hs.out.trans (Tr.run_ok ho));(first | (have hi :=zcc ho;subst hi) | (have hi :=put8_inv ho;subst hi) | (have hi :=zbh ho;subst hi));clear ho) | (go_at_call 105;refine (pair h.out _ _).mono ?_;rintro e V ⟨hk,rfl,hR⟩));(try dsimp only [Rw.put,Rw.regs,Rw.fetched] at hR);replace h :=Aside0.mk hR;replace HK :=Aside0.mk (HK.out.trans hk);clear hR hk)));(try clear c14 c27);skip;have c14 :=h.out.cell 14 _ rfl;have c27 :=h.out.cell 27 _ rfl;(try dsimp only [Rw.put,Rw.regs,Rw.fetched] at c14 c27))
 all_goals ((go_end0;exact Post.done (enc :=fun _ : Unit => Value.tuple #[]) hs.out HK.out h.out))
theorem low6b {W : World} {g : Nat} {A : Option Addr} {gl : List Int} {cp n : Nat} {ρ : Rw} (h : RowAt W g A gl cp n ρ) (op y p q : Int) (hx : ρ.x ≠ 0) :
  Calls Tryz.prog 91 #[.pointer (some ⟨g,0,none⟩),.int .i64 op,.int .i64 y,.int .i64 6,.int .i64 p,.int .i64 q] W (Post W g A gl cp (fun _ : Unit => .tuple #[]) (Tr.run gl (ρ.low6 y) n)) :=by
 obtain ⟨o,ho⟩ : ∃ o,o = Tr.run gl (ρ.low6 y) n :=⟨_,rfl⟩
 rw [← ho]
 have hs :=ho
 clear ho
 unfold Rw.low6 at hs
 replace hs :=Aside0.mk hs
 have HK :=Aside0.mk (Kp.refl g W)
 replace h :=Aside0.mk h
 skip;have c14 :=h.out.cell 14 _ rfl;have c27 :=h.out.cell 27 _ rfl;(try dsimp only [Rw.put,Rw.regs,Rw.fetched] at c14 c27)
 go_enter Tryz.func91,Tryz.ntmps91
 go_wp2_with ((first | ((first | ((first | go_at_call 84 | go_at_call 94 | go_at_call 89 | go_at_call 85);(try (repeat (split at hs <;> first | (exfalso;(simp_all;done)) | skip)));(first | (go_at_call 84;refine Post.cpsA (next h.out) ?_ ?_) | (go_at_call 94;refine Post.cpsA (put h.out _ _) ?_ ?_) | (go_at_call 89;refine Post.cpsA (write h.out _ _) ?_ ?_) | (go_at_call 85;refine Post.cpsA (idle h.out _) ?_ ?_));(· exact (fun k a v t V ho hk => ⟨rfl,Post.asks (hs.out.trans (Tr.run_ask ho)) (HK.out.trans hk)⟩));intro v ρ1 n1 V ho hk hR;replace hs :=Aside0.mk (hs.out.trans (Tr.run_ok ho));(first | (have hi :=zcc ho;subst hi) | (have hi :=put8_inv ho;subst hi) | (have hi :=zbh ho;subst hi) | (have hi :=zbd ho;subst hi));clear ho) | (go_at_call 105;refine (pair h.out _ _).mono ?_;rintro e V ⟨hk,rfl,hR⟩) | ((((with_reducible refine gate_store 22 ?_);refine zae h.out rfl _ _ rfl _ _ rfl rfl rfl (by decide) ?_));intro V hk hR));(try dsimp only [Rw.put,Rw.regs,Rw.fetched] at hR);replace h :=Aside0.mk hR;replace HK :=Aside0.mk (HK.out.trans hk);clear hR hk) | (go_at_call 86;refine (c_wide_Plus _ _ _).mono ?_;rintro e V ⟨rfl,hb⟩;replace h :=Aside0.mk (h.out.under hb);replace HK :=Aside0.mk (HK.out.andBelow hb);clear hb));(try clear c14 c27);skip;have c14 :=h.out.cell 14 _ rfl;have c27 :=h.out.cell 27 _ rfl;(try dsimp only [Rw.put,Rw.regs,Rw.fetched] at c14 c27))
 all_goals ((go_end0;exact Post.done (enc :=fun _ : Unit => Value.tuple #[]) hs.out HK.out h.out))
theorem low7 {W : World} {g : Nat} {A : Option Addr} {gl : List Int} {cp n : Nat} {ρ : Rw} (h : RowAt W g A gl cp n ρ) (op y z p q : Int) (h0 : z ≠ 0) (h1 : z ≠ 1) (h2 : z ≠ 2) (h3 : z ≠ 3) (h4 : z ≠ 4) (h5 : z ≠ 5) (h6 : z ≠ 6) :
  Calls Tryz.prog 91 #[.pointer (some ⟨g,0,none⟩),.int .i64 op,.int .i64 y,.int .i64 z,.int .i64 p,.int .i64 q] W (Post W g A gl cp (fun _ : Unit => .tuple #[]) (Tr.run gl (ρ.low7 y) n)) :=by
 obtain ⟨o,ho⟩ : ∃ o,o = Tr.run gl (ρ.low7 y) n :=⟨_,rfl⟩
 rw [← ho]
 have hs :=ho
 clear ho
 unfold Rw.low7 at hs
 replace hs :=Aside0.mk hs
 have HK :=Aside0.mk (Kp.refl g W)
 replace h :=Aside0.mk h
 skip;have c0 :=h.out.cell 0 _ rfl;have c1 :=h.out.cell 1 _ rfl;(try dsimp only [Rw.put,Rw.regs,Rw.fetched] at c0 c1)
 go_enter Tryz.func91,Tryz.ntmps91
 go_wp2_with ((first | ((first | (go_at_call 133;refine (c_shift_Scf _ _ _).mono ?_) | (go_at_call 134;refine (c_shift_Ccf _ _ _).mono ?_));rintro e V ⟨rfl,hb⟩;replace h :=Aside0.mk (h.out.under hb);replace HK :=Aside0.mk (HK.out.andBelow hb);clear hb) | ((((with_reducible refine gate_store 5 ?_);refine zas h.out rfl _ _ rfl _ _ rfl rfl rfl (by decide) ?_));intro V hk hR;(try dsimp only [Rw.put,Rw.regs,Rw.fetched] at hR);replace h :=Aside0.mk hR;replace HK :=Aside0.mk (HK.out.trans hk);clear hR hk) | ((first | ((with_reducible refine gate_region 8 ?_);(refine zad (RC g W A gl cp _ _) [(0,0),(1,0),(2,0),(3,0),(4,0),(5,0),(7,0),(8,0),(9,0),(6,1),(10,1),(11,2),(12,0),(13,0),(14,0)] [15,16,17,18,19,20] [15,16,17,18,19,20] 21 (by kernel_rfl) rfl rfl (by kernel_rfl) (by intro c a d v w h;cases d <;> exact h) (RC.mk (HK.out.drewN 1) (h.out.drewN 1)) (fun V hS0 => ?_));(repeat ((first | (refine Sch.pureN (v :=?_) (a' :=?_) rfl rfl (by rfl) ?_ ?_ ?_;rotate_left 2;(· (intro w';go_simp <;> with_reducible rfl))) | (refine Sch.takeN (v :=?_) (a' :=?_) rfl rfl (by rfl) hS0 ?_ ?_ ?_;rotate_left 2;(· (intro w' hS';(first | (have q :=hS'.row.cell 0 _ rfl;(try dsimp only [Rw.put,Rw.regs,Rw.fetched] at q);go_simp <;> with_reducible rfl) | (have q :=hS'.row.cell 1 _ rfl;(try dsimp only [Rw.put,Rw.regs,Rw.fetched] at q);go_simp <;> with_reducible rfl))))));(· (simp only [aput] <;> rfl))));(refine Sch.call (N :=(some 57)) rfl rfl Tryz.func130 (by kernel_rfl) rfl ?_ (by rfl) rfl ?_ ?_;rotate_left;(· (go_simp <;> with_reducible rfl));refine (c_shift_Turn _ _ _ _).mono ?_;rintro e V ⟨rfl,hb⟩;replace hS0 :=hS0.step hb;clear hb;refine ⟨hS0,?_⟩;refine Sch.norm (a' :=?_) ?_ ?_;rotate_left;(· (simp only [aput] <;> rfl)));(repeat ((refine Sch.pureN (v :=?_) (a' :=?_) rfl rfl (by rfl) ?_ ?_ ?_;rotate_left 2;(· (intro w';go_simp <;> with_reducible rfl)));(· (simp only [aput] <;> rfl))));(refine Sch.tail 15 6 rfl rfl ?_;simp only [List.drop_succ_cons,List.drop_zero,List.drop_nil])) | ((first | ((with_reducible refine gate_region 10 ?_);(refine zad (RC g W A gl cp _ _) [(0,0),(1,0),(2,0),(3,0),(4,0),(6,0),(7,0),(8,0),(5,1),(9,1),(10,2),(11,0),(12,0),(13,0)] [14,15,16,17,18,19] [14,15,16,17,18,19] 20 (by kernel_rfl) rfl rfl (by kernel_rfl) (by intro c a d v w h;cases d <;> exact h) (RC.mk (HK.out.drewN 1) (h.out.drewN 1)) (fun V hS0 => ?_));(repeat ((first | (refine Sch.pureN (v :=?_) (a' :=?_) rfl rfl (by rfl) ?_ ?_ ?_;rotate_left 2;(· (intro w';go_simp <;> with_reducible rfl))) | (refine Sch.takeN (v :=?_) (a' :=?_) rfl rfl (by rfl) hS0 ?_ ?_ ?_;rotate_left 2;(· (intro w' hS';(first | (have q :=hS'.row.cell 0 _ rfl;(try dsimp only [Rw.put,Rw.regs,Rw.fetched] at q);go_simp <;> with_reducible rfl) | (have q :=hS'.row.cell 1 _ rfl;(try dsimp only [Rw.put,Rw.regs,Rw.fetched] at q);go_simp <;> with_reducible rfl))))));(· (simp only [aput] <;> rfl))));(refine Sch.call (N :=(some 77)) rfl rfl Tryz.func131 (by kernel_rfl) rfl ?_ (by rfl) rfl ?_ ?_;rotate_left;(· (go_simp <;> with_reducible rfl));refine (c_shift_Daa _ _ _).mono ?_;rintro e V ⟨rfl,hb⟩;replace hS0 :=hS0.step hb;clear hb;refine ⟨hS0,?_⟩;refine Sch.norm (a' :=?_) ?_ ?_;rotate_left;(· (simp only [aput] <;> rfl)))) | ((with_reducible refine gate_region 12 ?_);(refine zad (RC g W A gl cp _ _) [(0,0),(1,0),(2,0),(3,0),(4,0),(6,0),(7,0),(8,0),(5,1),(9,1),(10,2),(11,0),(12,0),(13,0)] [14,15,16,17,18,19] [14,15,16,17,18,19] 20 (by kernel_rfl) rfl rfl (by kernel_rfl) (by intro c a d v w h;cases d <;> exact h) (RC.mk (HK.out.drewN 1) (h.out.drewN 1)) (fun V hS0 => ?_));(repeat ((first | (refine Sch.pureN (v :=?_) (a' :=?_) rfl rfl (by rfl) ?_ ?_ ?_;rotate_left 2;(· (intro w';go_simp <;> with_reducible rfl))) | (refine Sch.takeN (v :=?_) (a' :=?_) rfl rfl (by rfl) hS0 ?_ ?_ ?_;rotate_left 2;(· (intro w' hS';(first | (have q :=hS'.row.cell 0 _ rfl;(try dsimp only [Rw.put,Rw.regs,Rw.fetched] at q);go_simp <;> with_reducible rfl) | (have q :=hS'.row.cell 1 _ rfl;(try dsimp only [Rw.put,Rw.regs,Rw.fetched] at q);go_simp <;> with_reducible rfl))))));(· (simp only [aput] <;> rfl))));(refine Sch.call (N :=(some 97)) rfl rfl Tryz.func132 (by kernel_rfl) rfl ?_ (by rfl) rfl ?_ ?_;rotate_left;(· (go_simp <;> with_reducible rfl));refine (c_shift_Cpl _ _ _).mono ?_;rintro e V ⟨rfl,hb⟩;replace hS0 :=hS0.step hb;clear hb;refine ⟨hS0,?_⟩;refine Sch.norm (a' :=?_) ?_ ?_;rotate_left;(· (simp only [aput] <;> rfl)))));(repeat ((refine Sch.pureN (v :=?_) (a' :=?_) rfl rfl (by rfl) ?_ ?_ ?_;rotate_left 2;(· (intro w';go_simp <;> with_reducible rfl)));(· (simp only [aput] <;> rfl))));(refine Sch.tail 14 6 rfl rfl ?_;simp only [List.drop_succ_cons,List.drop_zero,List.drop_nil])) | ((first | (with_reducible refine gate_region 14 ?_) | (with_reducible refine gate_region 3 ?_));(refine zad (RC g W A gl cp _ _) [(0,0),(1,0),(2,0),(3,0),(5,0),(6,0),(7,0),(4,1),(8,1)] [9,10,11,12] [9,10,11,12] 13 (by kernel_rfl) rfl rfl (by kernel_rfl) (by intro c a d v w h;cases d <;> exact h) (RC.mk (HK.out.drewN 1) (h.out.drewN 1)) (fun V hS0 => ?_));(repeat ((first | (refine Sch.pureN (v :=?_) (a' :=?_) rfl rfl (by rfl) ?_ ?_ ?_;rotate_left 2;(· (intro w';go_simp <;> with_reducible rfl))) | (refine Sch.takeN (v :=?_) (a' :=?_) rfl rfl (by rfl) hS0 ?_ ?_ ?_;rotate_left 2;(· (intro w' hS';(first | (have q :=hS'.row.cell 0 _ rfl;(try dsimp only [Rw.put,Rw.regs,Rw.fetched] at q);go_simp <;> with_reducible rfl) | (have q :=hS'.row.cell 1 _ rfl;(try dsimp only [Rw.put,Rw.regs,Rw.fetched] at q);go_simp <;> with_reducible rfl))))));(· (simp only [aput] <;> rfl))));(refine Sch.tail 9 4 rfl rfl ?_;simp only [List.drop_succ_cons,List.drop_zero,List.drop_nil])));clear h HK;have h :=Aside0.mk hS0.row;have HK :=Aside0.mk hS0.kp;clear hS0));(try clear c0 c1);skip;have c0 :=h.out.cell 0 _ rfl;have c1 :=h.out.cell 1 _ rfl;(try dsimp only [Rw.put,Rw.regs,Rw.fetched] at c0 c1))
 all_goals (try (repeat (split at hs <;> first | (exfalso;(simp_all;done)) | skip)))
 all_goals ((go_end0;exact Post.done (enc :=fun _ : Unit => Value.tuple #[]) hs.out HK.out h.out))
theorem low {W : World} {g : Nat} {A : Option Addr} {gl : List Int} {cp n : Nat} {ρ : Rw} (h : RowAt W g A gl cp n ρ) (op y z p q : Int) :
  Calls Tryz.prog 91 #[.pointer (some ⟨g,0,none⟩),.int .i64 op,.int .i64 y,.int .i64 z,.int .i64 p,.int .i64 q] W (Post W g A gl cp (fun _ : Unit => .tuple #[]) (Tr.run gl (ρ.low op y z p q) n)) :=by
 unfold Rw.low
 by_cases h0 : z = 0
 ·subst h0;rw [if_pos rfl];exact low0 h op y p q
 rw [if_neg h0]
 by_cases h1 : z = 1
 ·subst h1;rw [if_pos rfl];exact low1 h op y p q
 rw [if_neg h1]
 by_cases h2 : z = 2
 ·subst h2
  rw [if_pos rfl]
  have :=low2 h op y p q
  rw [Tr.bind_ret] at this
  exact this
 rw [if_neg h2]
 by_cases h3 : z = 3
 ·subst h3;rw [if_pos rfl];exact low3 h op y p q
 rw [if_neg h3]
 by_cases h4 : z = 4
 ·subst h4;rw [if_pos (Or.inl rfl)];exact low4 h op y p q
 by_cases h5 : z = 5
 ·subst h5;rw [if_pos (Or.inr rfl)];exact low5 h op y p q
 rw [if_neg (by omega)]
 by_cases h6 : z = 6
 ·subst h6
  rw [if_pos rfl]
  by_cases hx : ρ.x = 0
  ·exact low6a h op y p q hx
  ·exact low6b h op y p q hx
 rw [if_neg h6]
 exact low7 h op y z p q h0 h1 h2 h3 h4 h5 h6
end Go.Proofs.YtnelghpendfdmaaGreatDoor.KRow
