/-
 PROVED: the contracts of the row's method high.
-/
import Derived.Test.YtnelghpendfdmaaGreatDoorKMc
import Derived.Test.YtnelghpendfdmaaGreatDoorKPl
namespace Go.Proofs.YtnelghpendfdmaaGreatDoor.KRow
set_option maxRecDepth 100000
set_option maxHeartbeats 16000000
open Go Go.RowKit Go.Proofs.YtnelghpendfdmaaGreatDoorW.PrintWords Go.Proofs.YtnelghpendfdmaaGreatDoorW.PrintLast Go.Proofs.YtnelghpendfdmaaGreatDoorW.PrintMore
open Go.Proofs.YtnelghpendfdmaaGreatDoor.HFun
set_option linter.unusedVariables false
set_option linter.unusedSimpArgs false
theorem high0 {W : World} {g : Nat} {A : Option Addr} {gl : List Int} {cp n : Nat} {ρ : Rw} (h : RowAt W g A gl cp n ρ) (op y p q : Int) :
  Calls Tryz.prog 97 #[.pointer (some ⟨g,0,none⟩),.int .i64 op,.int .i64 y,.int .i64 0,.int .i64 p,.int .i64 q] W (Post W g A gl cp (fun _ : Unit => .tuple #[]) (Tr.run gl (ρ.high op y 0 p q) n)) :=by
 obtain ⟨o,ho⟩ : ∃ o,o = Tr.run gl (ρ.high op y 0 p q) n :=⟨_,rfl⟩
 rw [← ho]
 have hs :=ho
 clear ho
 unfold Rw.high at hs
 rw [if_pos rfl] at hs
 replace hs :=Aside0.mk hs
 have HK :=Aside0.mk (Kp.refl g W)
 replace h :=Aside0.mk h
 skip;skip
 go_enter Tryz.func97,Tryz.ntmps97
 go_wp2_with ((first | ((first | go_at_call 85 | go_at_call 112);(try (repeat (split at hs <;> first | (exfalso;contradiction) | skip)));(first | (go_at_call 85;refine Post.cpsA (idle h.out _) ?_ ?_) | (go_at_call 112;refine Post.cpsA (rets h.out) ?_ ?_));(· exact (fun k a v t V ho hk => ⟨rfl,Post.asks (hs.out.trans (Tr.run_ask ho)) (HK.out.trans hk)⟩));intro v ρ1 n1 V ho hk hR;replace hs :=Aside0.mk (hs.out.trans (Tr.run_ok ho));(first | (have hi :=zbd ho;subst hi) | skip);clear ho) | (go_at_call 124;refine (cond h.out _).mono ?_;rintro e V ⟨hk,rfl,hR⟩));(try dsimp only [Rw.put,Rw.regs,Rw.fetched] at hR);replace h :=Aside0.mk hR;replace HK :=Aside0.mk (HK.out.trans hk);clear hR hk;skip;skip;skip)
 all_goals (try (repeat (split at hs <;> first | (exfalso;(simp_all;done)) | skip)))
 all_goals ((go_end0;exact Post.done (enc :=fun _ : Unit => Value.tuple #[]) hs.out HK.out h.out))
theorem high1 {W : World} {g : Nat} {A : Option Addr} {gl : List Int} {cp n : Nat} {ρ : Rw} (h : RowAt W g A gl cp n ρ) (op y p q : Int) :
  Calls Tryz.prog 97 #[.pointer (some ⟨g,0,none⟩),.int .i64 op,.int .i64 y,.int .i64 1,.int .i64 p,.int .i64 q] W (Post W g A gl cp (fun _ : Unit => .tuple #[]) (Tr.run gl (ρ.high1 p q) n)) :=by
 obtain ⟨o,ho⟩ : ∃ o,o = Tr.run gl (ρ.high1 p q) n :=⟨_,rfl⟩
 rw [← ho]
 have hs :=ho
 clear ho
 unfold Rw.high1 at hs
 replace hs :=Aside0.mk hs
 have HK :=Aside0.mk (Kp.refl g W)
 replace h :=Aside0.mk h
 skip;skip
 go_enter Tryz.func97,Tryz.ntmps97
 go_wp2_with (first | ((first | ((first | ((first | go_at_call 136 | go_at_call 109 | go_at_call 112 | go_at_call 85);(try (repeat (split at hs <;> first | (exfalso;(simp_all;done)) | skip)));(first | (go_at_call 136;refine Post.cpsA (pop h.out) ?_ ?_) | (go_at_call 109;refine Post.cpsA (putPair h.out _ _ _) ?_ ?_) | (go_at_call 112;refine Post.cpsA (rets h.out) ?_ ?_) | (go_at_call 85;refine Post.cpsA (idle h.out _) ?_ ?_));(· exact (fun k a v t V ho hk => ⟨rfl,Post.asks (hs.out.trans (Tr.run_ask ho)) (HK.out.trans hk)⟩));intro v ρ1 n1 V ho hk hR;replace hs :=Aside0.mk (hs.out.trans (Tr.run_ok ho));(first | (have hi :=pop_inv ho;subst hi) | (have hi :=putPair_inv ho;subst hi) | (have hi :=zbd ho;subst hi) | skip);clear ho) | (go_at_call 105;refine (pair h.out _ _).mono ?_;rintro e V ⟨hk,rfl,hR⟩) | ((first | ((with_reducible refine gate_store 22 ?_);refine zae h.out rfl _ _ rfl _ _ rfl rfl rfl (by decide) ?_) | ((with_reducible refine gate_store 24 ?_);refine zaz h.out rfl _ _ rfl _ rfl rfl ?_));intro V hk hR));(try dsimp only [Rw.put,Rw.regs,Rw.fetched] at hR);replace h :=Aside0.mk hR;replace HK :=Aside0.mk (HK.out.trans hk);clear hR hk) | (go_at_call 122;refine (Swap _ _ _).mono ?_;rintro e V ⟨rfl,hb⟩;replace h :=Aside0.mk (h.out.under hb);replace HK :=Aside0.mk (HK.out.andBelow hb);clear hb));skip;skip;skip) | ((with_reducible refine gate_load 24 ?_);refine zay h.out rfl _ rfl rfl ?_))
 all_goals (try (repeat (split at hs <;> first | (exfalso;(simp_all;done)) | skip)))
 all_goals ((go_end0;exact Post.done (enc :=fun _ : Unit => Value.tuple #[]) hs.out HK.out h.out))
theorem high2 {W : World} {g : Nat} {A : Option Addr} {gl : List Int} {cp n : Nat} {ρ : Rw} (h : RowAt W g A gl cp n ρ) (op y p q : Int) :
  Calls Tryz.prog 97 #[.pointer (some ⟨g,0,none⟩),.int .i64 op,.int .i64 y,.int .i64 2,.int .i64 p,.int .i64 q] W (Post W g A gl cp (fun _ : Unit => .tuple #[]) (Tr.run gl (ρ.high op y 2 p q) n)) :=by
 obtain ⟨o,ho⟩ : ∃ o,o = Tr.run gl (ρ.high op y 2 p q) n :=⟨_,rfl⟩
 rw [← ho]
 have hs :=ho
 clear ho
 unfold Rw.high at hs
 rw [if_neg (by decide),if_neg (by decide),if_pos rfl] at hs
 replace hs :=Aside0.mk hs
 have HK :=Aside0.mk (Kp.refl g W)
 replace h :=Aside0.mk h
 skip;have c14 :=h.out.cell 14 _ rfl;(try dsimp only [Rw.put,Rw.regs,Rw.fetched] at c14)
 go_enter Tryz.func97,Tryz.ntmps97
 go_wp2_with ((first | (go_at_call 125;  refine Post.cpsA (word h.out) ?_ ?_;(· exact (fun k a v t V ho hk => ⟨rfl,Post.asks (hs.out.trans (Tr.run_ask ho)) (HK.out.trans hk)⟩));intro v ρ1 n1 V ho hk hR;replace hs :=Aside0.mk (hs.out.trans (Tr.run_ok ho));(have hi :=word_inv ho;subst hi);clear ho) | (go_at_call 124;refine (cond h.out _).mono ?_;rintro e V ⟨hk,rfl,hR⟩) | ((((with_reducible refine gate_store 22 ?_);refine zae h.out rfl _ _ rfl _ _ rfl rfl rfl (by decide) ?_));intro V hk hR));(try dsimp only [Rw.put,Rw.regs,Rw.fetched] at hR);replace h :=Aside0.mk hR;replace HK :=Aside0.mk (HK.out.trans hk);clear hR hk;(try clear c14);skip;have c14 :=h.out.cell 14 _ rfl;(try dsimp only [Rw.put,Rw.regs,Rw.fetched] at c14))
 all_goals (try (repeat (split at hs <;> first | (exfalso;first | contradiction | (simp_all;done)) | skip)))
 all_goals ((go_end0;exact Post.done (enc :=fun _ : Unit => Value.tuple #[]) hs.out HK.out h.out))
theorem high3 {W : World} {g : Nat} {A : Option Addr} {gl : List Int} {cp n : Nat} {ρ : Rw} (h : RowAt W g A gl cp n ρ) (op y p q : Int) :
  Calls Tryz.prog 97 #[.pointer (some ⟨g,0,none⟩),.int .i64 op,.int .i64 y,.int .i64 3,.int .i64 p,.int .i64 q] W (Post W g A gl cp (fun _ : Unit => .tuple #[]) (Tr.run gl ((ρ.odd op).bind fun _ ρ => .ret () ρ) n)) :=by
 obtain ⟨o,ho⟩ : ∃ o,o = Tr.run gl ((ρ.odd op).bind fun _ ρ => .ret () ρ) n :=⟨_,rfl⟩
 rw [← ho]
 have hs :=ho
 clear ho
 replace hs :=Aside0.mk hs
 have HK :=Aside0.mk (Kp.refl g W)
 replace h :=Aside0.mk h
 skip;skip
 go_enter Tryz.func97,Tryz.ntmps97
 go_wp2_with (go_at_call 137;  refine Post.cpsA (odd h.out _) ?_ ?_;(· exact (fun k a v t V ho hk => ⟨rfl,Post.asks (hs.out.trans (Tr.run_ask ho)) (HK.out.trans hk)⟩));intro v ρ1 n1 V ho hk hR;replace hs :=Aside0.mk (hs.out.trans (Tr.run_ok ho));clear ho;(try dsimp only [Rw.put,Rw.regs,Rw.fetched] at hR);replace h :=Aside0.mk hR;replace HK :=Aside0.mk (HK.out.trans hk);clear hR hk;skip;skip;skip)
 all_goals ((go_end0;exact Post.done (enc :=fun _ : Unit => Value.tuple #[]) hs.out HK.out h.out))
theorem high4 {W : World} {g : Nat} {A : Option Addr} {gl : List Int} {cp n : Nat} {ρ : Rw} (h : RowAt W g A gl cp n ρ) (op y p q : Int) :
  Calls Tryz.prog 97 #[.pointer (some ⟨g,0,none⟩),.int .i64 op,.int .i64 y,.int .i64 4,.int .i64 p,.int .i64 q] W (Post W g A gl cp (fun _ : Unit => .tuple #[]) (Tr.run gl (ρ.high op y 4 p q) n)) :=by
 obtain ⟨o,ho⟩ : ∃ o,o = Tr.run gl (ρ.high op y 4 p q) n :=⟨_,rfl⟩
 rw [← ho]
 have hs :=ho
 clear ho
 unfold Rw.high at hs
 rw [if_neg (by decide),if_neg (by decide),if_neg (by decide),if_neg (by decide),if_pos rfl] at hs
 replace hs :=Aside0.mk hs
 have HK :=Aside0.mk (Kp.refl g W)
 replace h :=Aside0.mk h
 skip;have c14 :=h.out.cell 14 _ rfl;(try dsimp only [Rw.put,Rw.regs,Rw.fetched] at c14)
 go_enter Tryz.func97,Tryz.ntmps97
 go_wp2_with ((first | ((first | go_at_call 125 | go_at_call 138);(try (repeat (split at hs <;> first | (exfalso;contradiction) | skip)));(first | (go_at_call 125;refine Post.cpsA (word h.out) ?_ ?_) | (go_at_call 138;refine Post.cpsA (call h.out _) ?_ ?_));(· exact (fun k a v t V ho hk => ⟨rfl,Post.asks (hs.out.trans (Tr.run_ask ho)) (HK.out.trans hk)⟩));intro v ρ1 n1 V ho hk hR;replace hs :=Aside0.mk (hs.out.trans (Tr.run_ok ho));(first | (have hi :=word_inv ho;subst hi) | skip);clear ho) | (go_at_call 124;refine (cond h.out _).mono ?_;rintro e V ⟨hk,rfl,hR⟩) | ((((with_reducible refine gate_store 22 ?_);refine zae h.out rfl _ _ rfl _ _ rfl rfl rfl (by decide) ?_));intro V hk hR));(try dsimp only [Rw.put,Rw.regs,Rw.fetched] at hR);replace h :=Aside0.mk hR;replace HK :=Aside0.mk (HK.out.trans hk);clear hR hk;(try clear c14);skip;have c14 :=h.out.cell 14 _ rfl;(try dsimp only [Rw.put,Rw.regs,Rw.fetched] at c14))
 all_goals (try (repeat (split at hs <;> first | (exfalso;(simp_all;done)) | skip)))
 all_goals ((go_end0;exact Post.done (enc :=fun _ : Unit => Value.tuple #[]) hs.out HK.out h.out))
theorem high5 {W : World} {g : Nat} {A : Option Addr} {gl : List Int} {cp n : Nat} {ρ : Rw} (h : RowAt W g A gl cp n ρ) (op y p q : Int) :
  Calls Tryz.prog 97 #[.pointer (some ⟨g,0,none⟩),.int .i64 op,.int .i64 y,.int .i64 5,.int .i64 p,.int .i64 q] W (Post W g A gl cp (fun _ : Unit => .tuple #[]) (Tr.run gl (ρ.high5 op p q) n)) :=by
 obtain ⟨o,ho⟩ : ∃ o,o = Tr.run gl (ρ.high5 op p q) n :=⟨_,rfl⟩
 rw [← ho]
 have hs :=ho
 clear ho
 unfold Rw.high5 at hs
 replace hs :=Aside0.mk hs
 have HK :=Aside0.mk (Kp.refl g W)
 replace h :=Aside0.mk h
 skip;have c14 :=h.out.cell 14 _ rfl;(try dsimp only [Rw.put,Rw.regs,Rw.fetched] at c14)
 go_enter Tryz.func97,Tryz.ntmps97
 go_wp2_with ((first | ((first | go_at_call 85 | go_at_call 81 | go_at_call 125 | go_at_call 138);(try (repeat (split at hs <;> first | (exfalso;(simp_all;done)) | skip)));(first | (go_at_call 85;refine Post.cpsA (idle h.out _) ?_ ?_) | (go_at_call 81;refine Post.cpsA (push h.out _) ?_ ?_) | (go_at_call 125;refine Post.cpsA (word h.out) ?_ ?_) | (go_at_call 138;refine Post.cpsA (call h.out _) ?_ ?_));(· exact (fun k a v t V ho hk => ⟨rfl,Post.asks (hs.out.trans (Tr.run_ask ho)) (HK.out.trans hk)⟩));intro v ρ1 n1 V ho hk hR;replace hs :=Aside0.mk (hs.out.trans (Tr.run_ok ho));(first | (have hi :=zbd ho;subst hi) | (have hi :=push_inv ho;subst hi) | (have hi :=word_inv ho;subst hi) | skip);clear ho) | (go_at_call 105;refine (pair h.out _ _).mono ?_;rintro e V ⟨hk,rfl,hR⟩) | ((((with_reducible refine gate_store 22 ?_);refine zae h.out rfl _ _ rfl _ _ rfl rfl rfl (by decide) ?_));intro V hk hR));(try dsimp only [Rw.put,Rw.regs,Rw.fetched] at hR);replace h :=Aside0.mk hR;replace HK :=Aside0.mk (HK.out.trans hk);clear hR hk;(try clear c14);skip;have c14 :=h.out.cell 14 _ rfl;(try dsimp only [Rw.put,Rw.regs,Rw.fetched] at c14))
 all_goals (try (repeat (split at hs <;> first | (exfalso;(simp_all;done)) | skip)))
 all_goals ((go_end0;exact Post.done (enc :=fun _ : Unit => Value.tuple #[]) hs.out HK.out h.out))
theorem high6 {W : World} {g : Nat} {A : Option Addr} {gl : List Int} {cp n : Nat} {ρ : Rw} (h : RowAt W g A gl cp n ρ) (op y p q : Int) :
  Calls Tryz.prog 97 #[.pointer (some ⟨g,0,none⟩),.int .i64 op,.int .i64 y,.int .i64 6,.int .i64 p,.int .i64 q] W (Post W g A gl cp (fun _ : Unit => .tuple #[]) (Tr.run gl (ρ.high op y 6 p q) n)) :=by
 obtain ⟨o,ho⟩ : ∃ o,o = Tr.run gl (ρ.high op y 6 p q) n :=⟨_,rfl⟩
 rw [← ho]
 have hs :=ho
 clear ho
 unfold Rw.high at hs
 rw [if_neg (by decide),if_neg (by decide),if_neg (by decide),if_neg (by decide),if_neg (by decide),if_neg (by decide),if_pos rfl] at hs
 replace hs :=Aside0.mk hs
 have HK :=Aside0.mk (Kp.refl g W)
 replace h :=Aside0.mk h
 skip;have c0 :=h.out.cell 0 _ rfl;have c1 :=h.out.cell 1 _ rfl;(try dsimp only [Rw.put,Rw.regs,Rw.fetched] at c0 c1)
 go_enter Tryz.func97,Tryz.ntmps97
 go_wp2_with ((first | ((first | (go_at_call 84;  refine Post.cpsA (next h.out) ?_ ?_;(· exact (fun k a v t V ho hk => ⟨rfl,Post.asks (hs.out.trans (Tr.run_ask ho)) (HK.out.trans hk)⟩));intro v ρ1 n1 V ho hk hR;replace hs :=Aside0.mk (hs.out.trans (Tr.run_ok ho));(have hi :=zcc ho;subst hi);clear ho) | ((((with_reducible refine gate_store 5 ?_);refine zas h.out rfl _ _ rfl _ _ rfl rfl rfl (by decide) ?_));intro V hk hR));(try dsimp only [Rw.put,Rw.regs,Rw.fetched] at hR);replace h :=Aside0.mk hR;replace HK :=Aside0.mk (HK.out.trans hk);clear hR hk) | ((with_reducible refine gate_region 38 ?_);(refine zad (RC g W A gl cp _ _) [(0,0),(1,0),(2,0),(3,0),(4,0),(5,0),(7,0),(8,0),(9,0),(10,0),(6,1),(11,1),(12,2),(13,0),(14,0),(15,0)] [16,17,18,19,20,21] [16,17,18,19,20,21] 22 (by kernel_rfl) rfl rfl (by kernel_rfl) (by intro c a d v w h;cases d <;> exact h) (RC.mk (HK.out.drewN 1) (h.out.drewN 1)) (fun V hS0 => ?_));(repeat ((first | (refine Sch.pureN (v :=?_) (a' :=?_) rfl rfl (by rfl) ?_ ?_ ?_;rotate_left 2;(· (intro w';go_simp <;> with_reducible rfl))) | (refine Sch.takeN (v :=?_) (a' :=?_) rfl rfl (by rfl) hS0 ?_ ?_ ?_;rotate_left 2;(· (intro w' hS';(first | (have q :=hS'.row.cell 0 _ rfl;(try dsimp only [Rw.put,Rw.regs,Rw.fetched] at q);go_simp <;> with_reducible rfl) | (have q :=hS'.row.cell 1 _ rfl;(try dsimp only [Rw.put,Rw.regs,Rw.fetched] at q);go_simp <;> with_reducible rfl))))));(· (simp only [aput] <;> rfl))));(refine Sch.call (N :=(some 157)) rfl rfl Tryz.func96 (by kernel_rfl) rfl ?_ (by rfl) rfl ?_ ?_;rotate_left;(· (go_simp <;> with_reducible rfl));refine (c_alu_Do _ _ _ _ _ hS0.row.tab).mono ?_;rintro e V ⟨rfl,hb⟩;replace hS0 :=hS0.step hb;clear hb;refine ⟨hS0,?_⟩;refine Sch.norm (a' :=?_) ?_ ?_;rotate_left;(· (simp only [aput] <;> rfl)));(repeat ((refine Sch.pureN (v :=?_) (a' :=?_) rfl rfl (by rfl) ?_ ?_ ?_;rotate_left 2;(· (intro w';go_simp <;> with_reducible rfl)));(· (simp only [aput] <;> rfl))));(refine Sch.tail 16 6 rfl rfl ?_;simp only [List.drop_succ_cons,List.drop_zero,List.drop_nil]);clear h HK;have h :=Aside0.mk hS0.row;have HK :=Aside0.mk hS0.kp;clear hS0));(try clear c0 c1);skip;have c0 :=h.out.cell 0 _ rfl;have c1 :=h.out.cell 1 _ rfl;(try dsimp only [Rw.put,Rw.regs,Rw.fetched] at c0 c1))
 all_goals ((go_end0;exact Post.done (enc :=fun _ : Unit => Value.tuple #[]) hs.out HK.out h.out))
theorem high7 {W : World} {g : Nat} {A : Option Addr} {gl : List Int} {cp n : Nat} {ρ : Rw} (h : RowAt W g A gl cp n ρ) (op y z p q : Int) (h0 : z ≠ 0) (h1 : z ≠ 1) (h2 : z ≠ 2) (h3 : z ≠ 3) (h4 : z ≠ 4) (h5 : z ≠ 5) (h6 : z ≠ 6) :
  Calls Tryz.prog 97 #[.pointer (some ⟨g,0,none⟩),.int .i64 op,.int .i64 y,.int .i64 z,.int .i64 p,.int .i64 q] W (Post W g A gl cp (fun _ : Unit => .tuple #[]) (Tr.run gl ((ρ.call (IntKind.u16.wrap (wrap64 (8 * y)))).bind fun _ ρ => .ret () { ρ with wz :=ρ.pc }) n)) :=by
 obtain ⟨o,ho⟩ : ∃ o,o = Tr.run gl ((ρ.call (IntKind.u16.wrap (wrap64 (8 * y)))).bind fun _ ρ => .ret () { ρ with wz :=ρ.pc }) n :=⟨_,rfl⟩
 rw [← ho]
 have hs :=ho
 clear ho
 replace hs :=Aside0.mk hs
 have HK :=Aside0.mk (Kp.refl g W)
 replace h :=Aside0.mk h
 skip;have c13 :=h.out.cell 13 _ rfl;(try dsimp only [Rw.put,Rw.regs,Rw.fetched] at c13)
 go_enter Tryz.func97,Tryz.ntmps97
 go_wp2_with ((first | (go_at_call 138;  refine Post.cpsA (call h.out _) ?_ ?_;(· exact (fun k a v t V ho hk => ⟨rfl,Post.asks (hs.out.trans (Tr.run_ask ho)) (HK.out.trans hk)⟩));intro v ρ1 n1 V ho hk hR;replace hs :=Aside0.mk (hs.out.trans (Tr.run_ok ho));clear ho) | ((((with_reducible refine gate_store 22 ?_);refine zae h.out rfl _ _ rfl _ _ rfl rfl rfl (by decide) ?_));intro V hk hR));(try dsimp only [Rw.put,Rw.regs,Rw.fetched] at hR);replace h :=Aside0.mk hR;replace HK :=Aside0.mk (HK.out.trans hk);clear hR hk;(try clear c13);skip;have c13 :=h.out.cell 13 _ rfl;(try dsimp only [Rw.put,Rw.regs,Rw.fetched] at c13))
 all_goals ((go_end0;exact Post.done (enc :=fun _ : Unit => Value.tuple #[]) hs.out HK.out h.out))
theorem high {W : World} {g : Nat} {A : Option Addr} {gl : List Int} {cp n : Nat} {ρ : Rw} (h : RowAt W g A gl cp n ρ) (op y z p q : Int) :
  Calls Tryz.prog 97 #[.pointer (some ⟨g,0,none⟩),.int .i64 op,.int .i64 y,.int .i64 z,.int .i64 p,.int .i64 q] W (Post W g A gl cp (fun _ : Unit => .tuple #[]) (Tr.run gl (ρ.high op y z p q) n)) :=by
 by_cases h0 : z = 0
 ·subst h0;exact high0 h op y p q
 by_cases h1 : z = 1
 ·subst h1;unfold Rw.high;rw [if_neg h0,if_pos rfl];exact high1 h op y p q
 by_cases h2 : z = 2
 ·subst h2;exact high2 h op y p q
 by_cases h3 : z = 3
 ·subst h3;unfold Rw.high;rw [if_neg h0,if_neg h1,if_neg h2,if_pos rfl];exact high3 h op y p q
 by_cases h4 : z = 4
 ·subst h4;exact high4 h op y p q
 by_cases h5 : z = 5
 ·subst h5;unfold Rw.high;rw [if_neg h0,if_neg h1,if_neg h2,if_neg h3,if_neg h4,if_pos rfl];exact high5 h op y p q
 by_cases h6 : z = 6
 ·subst h6;exact high6 h op y p q
 unfold Rw.high
 rw [if_neg h0,if_neg h1,if_neg h2,if_neg h3,if_neg h4,if_neg h5,if_neg h6]
 exact high7 h op y z p q h0 h1 h2 h3 h4 h5 h6
end Go.Proofs.YtnelghpendfdmaaGreatDoor.KRow
