/-
 PROVED: the contracts of the row's small methods: pairs and bytes by code, addresses, jumps, calls.
-/
import Derived.Test.YtnelghpendfdmaaGreatDoorKMa
namespace Go.Proofs.YtnelghpendfdmaaGreatDoor.KRow
set_option maxRecDepth 100000
set_option maxHeartbeats 16000000
open Go Go.RowKit Go.Proofs.YtnelghpendfdmaaGreatDoorW.PrintWords Go.Proofs.YtnelghpendfdmaaGreatDoorW.PrintLast Go.Proofs.YtnelghpendfdmaaGreatDoorW.PrintMore
open Go.Proofs.YtnelghpendfdmaaGreatDoor.HFun
set_option linter.unusedVariables false
set_option linter.unusedSimpArgs false
theorem pair {W : World} {g : Nat} {A : Option Addr} {gl : List Int} {cp n : Nat} {ρ : Rw} (h : RowAt W g A gl cp n ρ) (c : Int) (st : Bool) :
  Calls Tryz.prog 105 #[.pointer (some ⟨g,0,none⟩),.int .i64 c,.bool st] W (Post W g A gl cp (.int .u16) (Tr.run gl (.ret (ρ.pair c st) ρ) n)) :=by
 obtain ⟨o,ho⟩ : ∃ o,o = Tr.run gl (.ret (ρ.pair c st) ρ) n :=⟨_,rfl⟩
 rw [← ho]
 have hs :=ho
 clear ho
 replace hs :=Aside0.mk hs
 have HK :=Aside0.mk (Kp.refl g W)
 replace h :=Aside0.mk h
 skip;skip
 go_enter Tryz.func105,Tryz.ntmps105
 go_wp2_with ((first | (go_at_call 87;refine (Pair _ _ _ _ _).mono ?_;rintro e V ⟨rfl,hb⟩;replace h :=Aside0.mk (h.out.under hb);replace HK :=Aside0.mk (HK.out.andBelow hb);clear hb) | ((with_reducible refine gate_region 1 ?_);(refine zad (RC g W A gl cp _ _) [(0,0),(1,0),(2,0),(4,0),(5,0),(6,0),(8,0),(9,0),(3,1),(7,1)] [10,11] [10,11] 12 (by kernel_rfl) rfl rfl (by kernel_rfl) (by intro c a d v w h;cases d <;> exact h) (RC.mk (HK.out.drewN 1) (h.out.drewN 1)) (fun V hS0 => ?_));(repeat ((first | (refine Sch.pureN (v :=?_) (a' :=?_) rfl rfl (by rfl) ?_ ?_ ?_;rotate_left 2;(· (intro w';go_simp <;> with_reducible rfl))) | (refine Sch.takeN (v :=?_) (a' :=?_) rfl rfl (by rfl) hS0 ?_ ?_ ?_;rotate_left 2;(· (intro w' hS';(have q :=hS'.row.cell 27 _ rfl;(try dsimp only [Rw.put,Rw.regs,Rw.fetched] at q);go_simp <;> with_reducible rfl)))) | (refine Sch.takeN (a' :=?_) rfl rfl (by rfl) hS0 (fun w' hS' => hS'.load24 _ rfl rfl) ?_ ?_;rotate_left));(· (simp only [aput] <;> rfl))));(refine Sch.tail 10 2 rfl rfl ?_;simp only [List.drop_succ_cons,List.drop_zero,List.drop_nil]);clear h HK;have h :=Aside0.mk hS0.row;have HK :=Aside0.mk hS0.kp;clear hS0));skip;skip;skip)
 all_goals ((go_ret;exact Post.done hs.out HK.out h.out))
theorem putPair {W : World} {g : Nat} {A : Option Addr} {gl : List Int} {cp n : Nat} {ρ : Rw} (h : RowAt W g A gl cp n ρ) (c : Int) (st : Bool) (v : Int) :
  Calls Tryz.prog 109 #[.pointer (some ⟨g,0,none⟩),.int .i64 c,.bool st,.int .u16 v] W (Post W g A gl cp (fun _ : Unit => .tuple #[]) (Tr.run gl (ρ.putPair c st v) n)) :=by
 obtain ⟨o,ho⟩ : ∃ o,o = Tr.run gl (ρ.putPair c st v) n :=⟨_,rfl⟩
 rw [← ho]
 have hs :=ho
 clear ho
 unfold Rw.putPair at hs
 replace hs :=Aside0.mk hs
 have HK :=Aside0.mk (Kp.refl g W)
 replace h :=Aside0.mk h
 skip;skip
 go_enter Tryz.func109,Tryz.ntmps109
 go_wp2_with ((((first | (go_at_call 146;refine (PutPair _ _ _ _ _ _).mono ?_;rintro e V ⟨rfl,hb⟩;replace h :=Aside0.mk (h.out.under hb);replace HK :=Aside0.mk (HK.out.andBelow hb);clear hb) | ((with_reducible refine gate_store 24 ?_);refine zaz h.out rfl _ _ rfl _ rfl rfl ?_;intro V hk hR;(try dsimp only [Rw.put,Rw.regs,Rw.fetched] at hR);replace h :=Aside0.mk hR;replace HK :=Aside0.mk (HK.out.trans hk);clear hR hk) | ((with_reducible refine gate_region 0 ?_);(refine zad (RC g W A gl cp _ _) [(0,0),(1,0),(2,0),(3,0),(5,0),(6,0),(7,0),(9,0),(10,0),(11,0),(4,1),(8,1)] [12,13,14,15] [12,13,14,15] 16 (by kernel_rfl) rfl rfl (by kernel_rfl) (by intro c a d v w h;cases d <;> exact h) (RC.mk (HK.out.drewN 1) (h.out.drewN 1)) (fun V hS0 => ?_));(repeat ((first | (refine Sch.pureN (v :=?_) (a' :=?_) rfl rfl (by rfl) ?_ ?_ ?_;rotate_left 2;(· (intro w';go_simp <;> with_reducible rfl))) | (refine Sch.takeN (v :=?_) (a' :=?_) rfl rfl (by rfl) hS0 ?_ ?_ ?_;rotate_left 2;(· (intro w' hS';(have q :=hS'.row.cell 27 _ rfl;(try dsimp only [Rw.put,Rw.regs,Rw.fetched] at q);go_simp <;> with_reducible rfl)))) | (refine Sch.takeN (a' :=?_) rfl rfl (by rfl) hS0 (fun w' hS' => hS'.load24 _ rfl rfl) ?_ ?_;rotate_left));(· (simp only [aput] <;> rfl))));(refine Sch.tail 12 4 rfl rfl ?_;simp only [List.drop_succ_cons,List.drop_zero,List.drop_nil]);clear h HK;have h :=Aside0.mk hS0.row;have HK :=Aside0.mk hS0.kp;clear hS0));skip;skip;skip)))
 all_goals ((go_end0;exact Post.done (enc :=fun _ : Unit => Value.tuple #[]) hs.out HK.out h.out))
theorem byteIndex {W : World} {g : Nat} {A : Option Addr} {gl : List Int} {cp n : Nat} {ρ : Rw} (h : RowAt W g A gl cp n ρ) :
  Calls Tryz.prog 135 #[.pointer (some ⟨g,0,none⟩)] W (Post W g A gl cp (.int .i64) (Tr.run gl (.ret ρ.byteIndex ρ) n)) :=by
 obtain ⟨o,ho⟩ : ∃ o,o = Tr.run gl (.ret ρ.byteIndex ρ) n :=⟨_,rfl⟩
 rw [← ho]
 have hs :=ho
 clear ho
 unfold Rw.byteIndex at hs
 replace hs :=Aside0.mk hs
 have HK :=Aside0.mk (Kp.refl g W)
 replace h :=Aside0.mk h
 skip;have c27 :=h.out.cell 27 _ rfl;have c28 :=h.out.cell 28 _ rfl;(try dsimp only [Rw.put,Rw.regs,Rw.fetched] at c27 c28)
 go_enter Tryz.func135,Tryz.ntmps135
 go_wp2_with fail
 all_goals (try (repeat (split at hs <;> first | (exfalso;first | contradiction | (simp_all;done)) | skip)))
 all_goals ((go_ret;exact Post.done hs.out HK.out h.out))
theorem put {W : World} {g : Nat} {A : Option Addr} {gl : List Int} {cp n : Nat} {ρ : Rw} (h : RowAt W g A gl cp n ρ) (c v : Int) :
  Calls Tryz.prog 94 #[.pointer (some ⟨g,0,none⟩),.int .i64 c,.int .u8 v] W (Post W g A gl cp (fun _ : Unit => .tuple #[]) (Tr.run gl (ρ.put8 c v) n)) :=by
 obtain ⟨o,ho⟩ : ∃ o,o = Tr.run gl (ρ.put8 c v) n :=⟨_,rfl⟩
 rw [← ho]
 have hs :=ho
 clear ho
 unfold Rw.put8 at hs
 replace hs :=Aside0.mk hs
 have HK :=Aside0.mk (Kp.refl g W)
 replace h :=Aside0.mk h
 skip;skip
 go_enter Tryz.func94,Tryz.ntmps94
 go_wp2_with ((((first | ((((with_reducible refine gate_store 24 ?_);refine zaz h.out rfl _ _ rfl _ rfl rfl ?_;intro V hk hR));(try dsimp only [Rw.put,Rw.regs,Rw.fetched] at hR);replace h :=Aside0.mk hR;replace HK :=Aside0.mk (HK.out.trans hk);clear hR hk) | (go_at_call 90;refine (Put _ _ _ _ _).mono ?_;rintro e V ⟨rfl,hb⟩;replace h :=Aside0.mk (h.out.under hb);replace HK :=Aside0.mk (HK.out.andBelow hb);clear hb) | ((with_reducible refine gate_region 0 ?_);(refine zad (RC g W A gl cp _ _) [(0,0),(1,0),(2,0),(3,0),(5,0),(7,0),(8,0),(4,1),(6,2)] [9,10,11,12] [9,10,11,12] 13 (by kernel_rfl) rfl rfl (by kernel_rfl) (by intro c a d v w h;cases d <;> exact h) (RC.mk (HK.out.drewN 1) (h.out.drewN 1)) (fun V hS0 => ?_));(repeat ((first | (refine Sch.pureN (v :=?_) (a' :=?_) rfl rfl (by rfl) ?_ ?_ ?_;rotate_left 2;(· (intro w';go_simp <;> with_reducible rfl))) | (refine Sch.takeN (a' :=?_) rfl rfl (by rfl) hS0 (fun w' hS' => hS'.load24 _ rfl rfl) ?_ ?_;rotate_left));(· (simp only [aput] <;> rfl))));(refine Sch.call (N :=(some 12)) rfl rfl Tryz.func135 (by kernel_rfl) rfl ?_ (by rfl) rfl ?_ ?_;rotate_left;(· (go_simp <;> with_reducible rfl));refine (byteIndex hS0.row).mono ?_;rintro e V ⟨hk,rfl,hR⟩;replace hS0 :=RC.mk (hS0.kp.trans hk) hR;clear hk hR;refine ⟨hS0,?_⟩;refine Sch.norm (a' :=?_) ?_ ?_;rotate_left;(· (simp only [aput] <;> rfl)));(refine Sch.tail 9 4 rfl rfl ?_;simp only [List.drop_succ_cons,List.drop_zero,List.drop_nil]);clear h HK;have h :=Aside0.mk hS0.row;have HK :=Aside0.mk hS0.kp;clear hS0));skip;skip;skip)))
 all_goals ((go_end0;exact Post.done (enc :=fun _ : Unit => Value.tuple #[]) hs.out HK.out h.out))
theorem address {W : World} {g : Nat} {A : Option Addr} {gl : List Int} {cp n : Nat} {ρ : Rw} (h : RowAt W g A gl cp n ρ) :
  Calls Tryz.prog 92 #[.pointer (some ⟨g,0,none⟩)] W (Post W g A gl cp (.int .u16) (Tr.run gl (ρ.address) n)) :=by
 obtain ⟨o,ho⟩ : ∃ o,o = Tr.run gl (ρ.address) n :=⟨_,rfl⟩
 rw [← ho]
 have hs :=ho
 clear ho
 unfold Rw.address at hs
 replace hs :=Aside0.mk hs
 have HK :=Aside0.mk (Kp.refl g W)
 replace h :=Aside0.mk h
 skip;have c14 :=h.out.cell 14 _ rfl;have c27 :=h.out.cell 27 _ rfl;(try dsimp only [Rw.put,Rw.regs,Rw.fetched] at c14 c27)
 go_enter Tryz.func92,Tryz.ntmps92
 go_wp2_with ((first | ((first | ((first | go_at_call 84 | go_at_call 85);(try (repeat (split at hs <;> first | (exfalso;(simp_all;done)) | skip)));(first | (go_at_call 84;refine Post.cpsA (next h.out) ?_ ?_) | (go_at_call 85;refine Post.cpsA (idle h.out _) ?_ ?_));(· exact (fun k a v t V ho hk => ⟨rfl,Post.asks (hs.out.trans (Tr.run_ask ho)) (HK.out.trans hk)⟩));intro v ρ1 n1 V ho hk hR;replace hs :=Aside0.mk (hs.out.trans (Tr.run_ok ho));(first | (have hi :=zcc ho;subst hi) | (have hi :=zbd ho;subst hi));clear ho) | (go_at_call 105;refine (pair h.out _ _).mono ?_;rintro e V ⟨hk,rfl,hR⟩) | ((((with_reducible refine gate_store 22 ?_);refine zae h.out rfl _ _ rfl _ _ rfl rfl rfl (by decide) ?_));intro V hk hR));(try dsimp only [Rw.put,Rw.regs,Rw.fetched] at hR);replace h :=Aside0.mk hR;replace HK :=Aside0.mk (HK.out.trans hk);clear hR hk) | (go_at_call 86;refine (c_wide_Plus _ _ _).mono ?_;rintro e V ⟨rfl,hb⟩;replace h :=Aside0.mk (h.out.under hb);replace HK :=Aside0.mk (HK.out.andBelow hb);clear hb));(try clear c14 c27);skip;have c14 :=h.out.cell 14 _ rfl;have c27 :=h.out.cell 27 _ rfl;(try dsimp only [Rw.put,Rw.regs,Rw.fetched] at c14 c27))
 all_goals (try (repeat (split at hs <;> first | (exfalso;(simp_all;done)) | skip)))
 all_goals ((go_ret;exact Post.done hs.out HK.out h.out))
theorem get {W : World} {g : Nat} {A : Option Addr} {gl : List Int} {cp n : Nat} {ρ : Rw} (h : RowAt W g A gl cp n ρ) (c : Int) :
  Calls Tryz.prog 95 #[.pointer (some ⟨g,0,none⟩),.int .i64 c] W (Post W g A gl cp (.int .u8) (Tr.run gl (ρ.get c) n)) :=by
 obtain ⟨o,ho⟩ : ∃ o,o = Tr.run gl (ρ.get c) n :=⟨_,rfl⟩
 rw [← ho]
 have hs :=ho
 clear ho
 unfold Rw.get Rw.get8 at hs
 replace hs :=Aside0.mk hs
 have HK :=Aside0.mk (Kp.refl g W)
 replace h :=Aside0.mk h
 skip;have c29 :=h.out.cell 29 _ rfl;(try dsimp only [Rw.put,Rw.regs,Rw.fetched] at c29)
 go_enter Tryz.func95,Tryz.ntmps95
 go_wp2_with ((first | ((first | ((first | go_at_call 92 | go_at_call 83);(try (repeat (split at hs <;> first | (exfalso;(simp_all;done)) | skip)));(first | (go_at_call 92;refine Post.cpsA (address h.out) ?_ ?_) | (go_at_call 83;refine Post.cpsA (read h.out _) ?_ ?_));(· exact (fun k a v t V ho hk => ⟨rfl,Post.asks (hs.out.trans (Tr.run_ask ho)) (HK.out.trans hk)⟩));intro v ρ1 n1 V ho hk hR;replace hs :=Aside0.mk (hs.out.trans (Tr.run_ok ho));(first | (have hi :=zbm ho;subst hi) | skip);clear ho) | ((((with_reducible refine gate_store 22 ?_);refine zae h.out rfl _ _ rfl _ _ rfl rfl rfl (by decide) ?_));intro V hk hR));(try dsimp only [Rw.put,Rw.regs,Rw.fetched] at hR);replace h :=Aside0.mk hR;replace HK :=Aside0.mk (HK.out.trans hk);clear hR hk) | (go_at_call 93;refine (Get _ _ _ _).mono ?_;rintro e V ⟨rfl,hb⟩;replace h :=Aside0.mk (h.out.under hb);replace HK :=Aside0.mk (HK.out.andBelow hb);clear hb) | ((with_reducible refine gate_region 4 ?_);(refine zad (RC g W A gl cp _ _) [(0,0),(1,0),(2,0),(4,0),(6,0),(3,1),(5,2)] [7,8] [7,8] 9 (by kernel_rfl) rfl rfl (by kernel_rfl) (by intro c a d v w h;cases d <;> exact h) (RC.mk (HK.out.drewN 1) (h.out.drewN 1)) (fun V hS0 => ?_));(repeat ((first | (refine Sch.pureN (v :=?_) (a' :=?_) rfl rfl (by rfl) ?_ ?_ ?_;rotate_left 2;(· (intro w';go_simp <;> with_reducible rfl))) | (refine Sch.takeN (a' :=?_) rfl rfl (by rfl) hS0 (fun w' hS' => hS'.load24 _ rfl rfl) ?_ ?_;rotate_left));(· (simp only [aput] <;> rfl))));(refine Sch.call (N :=(some 23)) rfl rfl Tryz.func135 (by kernel_rfl) rfl ?_ (by rfl) rfl ?_ ?_;rotate_left;(· (go_simp <;> with_reducible rfl));refine (byteIndex hS0.row).mono ?_;rintro e V ⟨hk,rfl,hR⟩;replace hS0 :=RC.mk (hS0.kp.trans hk) hR;clear hk hR;refine ⟨hS0,?_⟩;refine Sch.norm (a' :=?_) ?_ ?_;rotate_left;(· (simp only [aput] <;> rfl)));(refine Sch.tail 7 2 rfl rfl ?_;simp only [List.drop_succ_cons,List.drop_zero,List.drop_nil]);clear h HK;have h :=Aside0.mk hS0.row;have HK :=Aside0.mk hS0.kp;clear hS0));(try clear c29);skip;have c29 :=h.out.cell 29 _ rfl;(try dsimp only [Rw.put,Rw.regs,Rw.fetched] at c29))
 all_goals (try (repeat (split at hs <;> first | (exfalso;(simp_all;done)) | skip)))
 all_goals ((go_ret;exact Post.done hs.out HK.out h.out))
theorem jump {W : World} {g : Nat} {A : Option Addr} {gl : List Int} {cp n : Nat} {ρ : Rw} (h : RowAt W g A gl cp n ρ) (e : Int) :
  Calls Tryz.prog 123 #[.pointer (some ⟨g,0,none⟩),.int .u8 e] W (Post W g A gl cp (fun _ : Unit => .tuple #[]) (Tr.run gl (ρ.jump e) n)) :=by
 obtain ⟨o,ho⟩ : ∃ o,o = Tr.run gl (ρ.jump e) n :=⟨_,rfl⟩
 rw [← ho]
 have hs :=ho
 clear ho
 unfold Rw.jump at hs
 replace hs :=Aside0.mk hs
 have HK :=Aside0.mk (Kp.refl g W)
 replace h :=Aside0.mk h
 skip;have c13 :=h.out.cell 13 _ rfl;(try dsimp only [Rw.put,Rw.regs,Rw.fetched] at c13)
 go_enter Tryz.func123,Tryz.ntmps123
 go_wp2_with ((first | ((first | (go_at_call 85;  refine Post.cpsA (idle h.out _) ?_ ?_;(· exact (fun k a v t V ho hk => ⟨rfl,Post.asks (hs.out.trans (Tr.run_ask ho)) (HK.out.trans hk)⟩));intro v ρ1 n1 V ho hk hR;replace hs :=Aside0.mk (hs.out.trans (Tr.run_ok ho));(have hi :=zbd ho;subst hi);clear ho) | ((((with_reducible refine gate_store 22 ?_);refine zae h.out rfl _ _ rfl _ _ rfl rfl rfl (by decide) ?_));intro V hk hR));(try dsimp only [Rw.put,Rw.regs,Rw.fetched] at hR);replace h :=Aside0.mk hR;replace HK :=Aside0.mk (HK.out.trans hk);clear hR hk) | (go_at_call 86;refine (c_wide_Plus _ _ _).mono ?_;rintro e V ⟨rfl,hb⟩;replace h :=Aside0.mk (h.out.under hb);replace HK :=Aside0.mk (HK.out.andBelow hb);clear hb));(try clear c13);skip;have c13 :=h.out.cell 13 _ rfl;(try dsimp only [Rw.put,Rw.regs,Rw.fetched] at c13))
 all_goals ((go_end0;exact Post.done (enc :=fun _ : Unit => Value.tuple #[]) hs.out HK.out h.out))
theorem crossed {W : World} {g : Nat} {A : Option Addr} {gl : List Int} {cp n : Nat} {ρ : Rw} (h : RowAt W g A gl cp n ρ) (v : Int) :
  Calls Tryz.prog 159 #[.pointer (some ⟨g,0,none⟩),.int .u16 v] W (Post W g A gl cp (.int .u16) (Tr.run gl (.ret (ρ.crossed v) ρ) n)) :=by
 obtain ⟨o,ho⟩ : ∃ o,o = Tr.run gl (.ret (ρ.crossed v) ρ) n :=⟨_,rfl⟩
 rw [← ho]
 have hs :=ho
 clear ho
 unfold Rw.crossed at hs
 replace hs :=Aside0.mk hs
 have HK :=Aside0.mk (Kp.refl g W)
 replace h :=Aside0.mk h
 skip;have c0 :=h.out.cell 0 _ rfl;(try dsimp only [Rw.put,Rw.regs,Rw.fetched] at c0)
 go_enter Tryz.func159,Tryz.ntmps159
 go_wp2_with (go_at_call 82;refine (zat _ _ _).mono ?_;rintro e V ⟨rfl,hb⟩;replace h :=Aside0.mk (h.out.under hb);replace HK :=Aside0.mk (HK.out.andBelow hb);clear hb;(try clear c0);skip;have c0 :=h.out.cell 0 _ rfl;(try dsimp only [Rw.put,Rw.regs,Rw.fetched] at c0))
 all_goals ((go_ret;exact Post.done hs.out HK.out h.out))
theorem cond {W : World} {g : Nat} {A : Option Addr} {gl : List Int} {cp n : Nat} {ρ : Rw} (h : RowAt W g A gl cp n ρ) (y : Int) :
  Calls Tryz.prog 124 #[.pointer (some ⟨g,0,none⟩),.int .i64 y] W (Post W g A gl cp .bool (Tr.run gl (.ret (ρ.cond y) ρ) n)) :=by
 obtain ⟨o,ho⟩ : ∃ o,o = Tr.run gl (.ret (ρ.cond y) ρ) n :=⟨_,rfl⟩
 rw [← ho]
 have hs :=ho
 clear ho
 unfold Rw.cond at hs
 replace hs :=Aside0.mk hs
 have HK :=Aside0.mk (Kp.refl g W)
 replace h :=Aside0.mk h
 skip;have c1 :=h.out.cell 1 _ rfl;(try dsimp only [Rw.put,Rw.regs,Rw.fetched] at c1)
 go_enter Tryz.func124,Tryz.ntmps124
 go_wp2_with (go_at_call 158;refine (Cond _ _ _).mono ?_;rintro e V ⟨rfl,hb⟩;replace h :=Aside0.mk (h.out.under hb);replace HK :=Aside0.mk (HK.out.andBelow hb);clear hb;(try clear c1);skip;have c1 :=h.out.cell 1 _ rfl;(try dsimp only [Rw.put,Rw.regs,Rw.fetched] at c1))
 all_goals ((go_ret;exact Post.done hs.out HK.out h.out))
theorem store {W : World} {g : Nat} {A : Option Addr} {gl : List Int} {cp n : Nat} {ρ : Rw} (h : RowAt W g A gl cp n ρ) (v : Int) :
  Calls Tryz.prog 108 #[.pointer (some ⟨g,0,none⟩),.int .u16 v] W (Post W g A gl cp (fun _ : Unit => .tuple #[]) (Tr.run gl (ρ.store v) n)) :=by
 obtain ⟨o,ho⟩ : ∃ o,o = Tr.run gl (ρ.store v) n :=⟨_,rfl⟩
 rw [← ho]
 have hs :=ho
 clear ho
 unfold Rw.store at hs
 replace hs :=Aside0.mk hs
 have HK :=Aside0.mk (Kp.refl g W)
 replace h :=Aside0.mk h
 skip;skip
 go_enter Tryz.func108,Tryz.ntmps108
 go_wp2_with ((first | ((first | ((first | go_at_call 125 | go_at_call 89);  (first | (go_at_call 125;refine Post.cpsA (word h.out) ?_ ?_) | (go_at_call 89;refine Post.cpsA (write h.out _ _) ?_ ?_));(· exact (fun k a v t V ho hk => ⟨rfl,Post.asks (hs.out.trans (Tr.run_ask ho)) (HK.out.trans hk)⟩));intro v ρ1 n1 V ho hk hR;replace hs :=Aside0.mk (hs.out.trans (Tr.run_ok ho));(first | (have hi :=word_inv ho;subst hi) | (have hi :=zbh ho;subst hi));clear ho) | ((((with_reducible refine gate_store 22 ?_);refine zae h.out rfl _ _ rfl _ _ rfl rfl rfl (by decide) ?_));intro V hk hR));(try dsimp only [Rw.put,Rw.regs,Rw.fetched] at hR);replace h :=Aside0.mk hR;replace HK :=Aside0.mk (HK.out.trans hk);clear hR hk) | (go_at_call 107;refine (zbe _ _).mono ?_;rintro e V ⟨rfl,hb⟩;replace h :=Aside0.mk (h.out.under hb);replace HK :=Aside0.mk (HK.out.andBelow hb);clear hb));skip;skip;skip)
 all_goals ((go_end0;exact Post.done (enc :=fun _ : Unit => Value.tuple #[]) hs.out HK.out h.out))
theorem load {W : World} {g : Nat} {A : Option Addr} {gl : List Int} {cp n : Nat} {ρ : Rw} (h : RowAt W g A gl cp n ρ) :
  Calls Tryz.prog 110 #[.pointer (some ⟨g,0,none⟩)] W (Post W g A gl cp (.int .u16) (Tr.run gl (ρ.load) n)) :=by
 obtain ⟨o,ho⟩ : ∃ o,o = Tr.run gl (ρ.load) n :=⟨_,rfl⟩
 rw [← ho]
 have hs :=ho
 clear ho
 unfold Rw.load at hs
 replace hs :=Aside0.mk hs
 have HK :=Aside0.mk (Kp.refl g W)
 replace h :=Aside0.mk h
 skip;skip
 go_enter Tryz.func110,Tryz.ntmps110
 go_wp2_with ((first | ((first | ((first | go_at_call 125 | go_at_call 83);  (first | (go_at_call 125;refine Post.cpsA (word h.out) ?_ ?_) | (go_at_call 83;refine Post.cpsA (read h.out _) ?_ ?_));(· exact (fun k a v t V ho hk => ⟨rfl,Post.asks (hs.out.trans (Tr.run_ask ho)) (HK.out.trans hk)⟩));intro v ρ1 n1 V ho hk hR;replace hs :=Aside0.mk (hs.out.trans (Tr.run_ok ho));(first | (have hi :=word_inv ho;subst hi) | (have hi :=zbm ho;subst hi));clear ho) | ((((with_reducible refine gate_store 22 ?_);refine zae h.out rfl _ _ rfl _ _ rfl rfl rfl (by decide) ?_));intro V hk hR));(try dsimp only [Rw.put,Rw.regs,Rw.fetched] at hR);replace h :=Aside0.mk hR;replace HK :=Aside0.mk (HK.out.trans hk);clear hR hk) | (go_at_call 82;refine (zat _ _ _).mono ?_;rintro e V ⟨rfl,hb⟩;replace h :=Aside0.mk (h.out.under hb);replace HK :=Aside0.mk (HK.out.andBelow hb);clear hb));skip;skip;skip)
 all_goals ((go_ret;exact Post.done hs.out HK.out h.out))
theorem call {W : World} {g : Nat} {A : Option Addr} {gl : List Int} {cp n : Nat} {ρ : Rw} (h : RowAt W g A gl cp n ρ) (tg : Int) :
  Calls Tryz.prog 138 #[.pointer (some ⟨g,0,none⟩),.int .u16 tg] W (Post W g A gl cp (fun _ : Unit => .tuple #[]) (Tr.run gl (ρ.call tg) n)) :=by
 obtain ⟨o,ho⟩ : ∃ o,o = Tr.run gl (ρ.call tg) n :=⟨_,rfl⟩
 rw [← ho]
 have hs :=ho
 clear ho
 unfold Rw.call at hs
 replace hs :=Aside0.mk hs
 have HK :=Aside0.mk (Kp.refl g W)
 replace h :=Aside0.mk h
 skip;have c13 :=h.out.cell 13 _ rfl;(try dsimp only [Rw.put,Rw.regs,Rw.fetched] at c13)
 go_enter Tryz.func138,Tryz.ntmps138
 go_wp2_with ((first | ((first | go_at_call 85 | go_at_call 81);  (first | (go_at_call 85;refine Post.cpsA (idle h.out _) ?_ ?_) | (go_at_call 81;refine Post.cpsA (push h.out _) ?_ ?_));(· exact (fun k a v t V ho hk => ⟨rfl,Post.asks (hs.out.trans (Tr.run_ask ho)) (HK.out.trans hk)⟩));intro v ρ1 n1 V ho hk hR;replace hs :=Aside0.mk (hs.out.trans (Tr.run_ok ho));(first | (have hi :=zbd ho;subst hi) | (have hi :=push_inv ho;subst hi));clear ho) | ((((with_reducible refine gate_store 22 ?_);refine zae h.out rfl _ _ rfl _ _ rfl rfl rfl (by decide) ?_));intro V hk hR));(try dsimp only [Rw.put,Rw.regs,Rw.fetched] at hR);replace h :=Aside0.mk hR;replace HK :=Aside0.mk (HK.out.trans hk);clear hR hk;(try clear c13);skip;have c13 :=h.out.cell 13 _ rfl;(try dsimp only [Rw.put,Rw.regs,Rw.fetched] at c13))
 all_goals ((go_end0;exact Post.done (enc :=fun _ : Unit => Value.tuple #[]) hs.out HK.out h.out))
theorem rets {W : World} {g : Nat} {A : Option Addr} {gl : List Int} {cp n : Nat} {ρ : Rw} (h : RowAt W g A gl cp n ρ) :
  Calls Tryz.prog 112 #[.pointer (some ⟨g,0,none⟩)] W (Post W g A gl cp (fun _ : Unit => .tuple #[]) (Tr.run gl (ρ.rets) n)) :=by
 obtain ⟨o,ho⟩ : ∃ o,o = Tr.run gl (ρ.rets) n :=⟨_,rfl⟩
 rw [← ho]
 have hs :=ho
 clear ho
 unfold Rw.rets at hs
 replace hs :=Aside0.mk hs
 have HK :=Aside0.mk (Kp.refl g W)
 replace h :=Aside0.mk h
 skip;have c13 :=h.out.cell 13 _ rfl;(try dsimp only [Rw.put,Rw.regs,Rw.fetched] at c13)
 go_enter Tryz.func112,Tryz.ntmps112
 go_wp2_with ((first | (go_at_call 136;  refine Post.cpsA (pop h.out) ?_ ?_;(· exact (fun k a v t V ho hk => ⟨rfl,Post.asks (hs.out.trans (Tr.run_ask ho)) (HK.out.trans hk)⟩));intro v ρ1 n1 V ho hk hR;replace hs :=Aside0.mk (hs.out.trans (Tr.run_ok ho));(have hi :=pop_inv ho;subst hi);clear ho) | ((((with_reducible refine gate_store 22 ?_);refine zae h.out rfl _ _ rfl _ _ rfl rfl rfl (by decide) ?_));intro V hk hR));(try dsimp only [Rw.put,Rw.regs,Rw.fetched] at hR);replace h :=Aside0.mk hR;replace HK :=Aside0.mk (HK.out.trans hk);clear hR hk;(try clear c13);skip;have c13 :=h.out.cell 13 _ rfl;(try dsimp only [Rw.put,Rw.regs,Rw.fetched] at c13))
 all_goals ((go_end0;exact Post.done (enc :=fun _ : Unit => Value.tuple #[]) hs.out HK.out h.out))
end Go.Proofs.YtnelghpendfdmaaGreatDoor.KRow
