/-
 PROVED: the contract of the row's method setMore.
-/
import Derived.Test.YtnelghpendfdmaaGreatDoorKMh
namespace Go.Proofs.YtnelghpendfdmaaGreatDoor.KRow
set_option maxRecDepth 100000
set_option maxHeartbeats 16000000
open Go Go.RowKit Go.Proofs.YtnelghpendfdmaaGreatDoorW.PrintWords Go.Proofs.YtnelghpendfdmaaGreatDoorW.PrintLast Go.Proofs.YtnelghpendfdmaaGreatDoorW.PrintMore
open Go.Proofs.YtnelghpendfdmaaGreatDoor.HFun
set_option linter.unusedVariables false
set_option linter.unusedSimpArgs false
theorem zbt {op x y z p q : Int} (hP : zbb op = (x,y,z,p,q)) (w : World) : Calls Tryz.prog 61 #[.int .i64 op] w fun e w' => e = .returned (.tuple #[.int .i64 x,.int .i64 y,.int .i64 z,.int .i64 p,.int .i64 q]) ∧ Below w.heap.size w w' :=by
 have :=c_decode_Parts op w
 rw [hP] at this
 exact this
theorem inp_val {W : World} {g : Nat} {A : Option Addr} {gl : List Int} {cp n n1 : Nat} {ρ ρ1 : Rw} {a v : Int} (h : RowAt W g A gl cp n ρ) (ho : (ρ.inp a).run gl n = .ok v ρ1 n1) : 0 ≤ v ∧ v < 256 :=by
 unfold Rw.inp Rw.req at ho
 simp only [Tr.bind,Tr.run] at ho
 split at ho
 ·rename_i hl
  cases ho
  have : rd gl n = gl[n] :=by simp [rd,hl]
  rw [this]
  exact h.rng _ (List.getElem_mem hl)
 ·cases ho
theorem block {W : World} {g : Nat} {A : Option Addr} {gl : List Int} {cp n : Nat} {ρ : Rw} (h : RowAt W g A gl cp n ρ) (y z : Int) :
  Calls Tryz.prog 98 #[.pointer (some ⟨g,0,none⟩),.int .i64 y,.int .i64 z] W (Post W g A gl cp (fun _ : Unit => .tuple #[]) (Tr.run gl (ρ.block y z) n)) :=by
 unfold Rw.block
 cases hp : (Go.bits .and .i64 y 1 == 1)
 rw [if_neg (by simpa using hp)]
 ·by_cases h0 : z = 0
  ·subst h0;rw [if_pos rfl];exact blk0.2 h y hp
  rw [if_neg h0]
  by_cases h1 : z = 1
  ·subst h1
   rw [if_pos rfl]
   cases hq : (IntKind.u16.wrap (zbg ρ.b ρ.c - 1) != 0)
   ·exact blk1.2.2.2 h y hp hq
   ·exact blk1.2.2.1 h y hp hq
  rw [if_neg h1]
  by_cases h2 : z = 2
  ·subst h2;rw [if_pos rfl];exact blk2.2 h y hp
  rw [if_neg h2]
  exact blk3.2 h y z hp h0 h1 h2
 rw [if_pos (by simpa using hp)]
 ·by_cases h0 : z = 0
  ·subst h0;rw [if_pos rfl];exact blk0.1 h y hp
  rw [if_neg h0]
  by_cases h1 : z = 1
  ·subst h1
   rw [if_pos rfl]
   cases hq : (IntKind.u16.wrap (zbg ρ.b ρ.c - 1) != 0)
   ·exact blk1.2.1 h y hp hq
   ·exact blk1.1 h y hp hq
  rw [if_neg h1]
  by_cases h2 : z = 2
  ·subst h2;rw [if_pos rfl];exact blk2.1 h y hp
  rw [if_neg h2]
  exact blk3.1 h y z hp h0 h1 h2
theorem more_block {W : World} {g : Nat} {A : Option Addr} {gl : List Int} {cp n : Nat} {ρ : Rw} (h : RowAt W g A gl cp n ρ) (op y z p q : Int) (hP : zbb op = (2,y,z,p,q)) (hy : decide (4 ≤ y) = true) (hz : decide (z ≤ 3) = true) :
  Calls Tryz.prog 73 #[.pointer (some ⟨g,0,none⟩),.int .i64 op] W (Post W g A gl cp (fun _ : Unit => .tuple #[]) (Tr.run gl ((ρ.block y z).bind fun _ ρ => .ret () ρ) n)) :=by
 obtain ⟨o,ho⟩ : ∃ o,o = Tr.run gl ((ρ.block y z).bind fun _ ρ => .ret () ρ) n :=⟨_,rfl⟩
 rw [← ho]
 have hs :=ho
 clear ho
 replace hs :=Aside0.mk hs
 have HK :=Aside0.mk (Kp.refl g W)
 replace h :=Aside0.mk h
 skip;skip
 go_enter Tryz.func73,Tryz.ntmps73
 go_wp2_with ((first | (go_at_call 98;  refine Post.cpsA (block h.out _ _) ?_ ?_;(· exact (fun k a v t V ho hk => ⟨rfl,Post.asks (hs.out.trans (Tr.run_ask ho)) (HK.out.trans hk)⟩));intro v ρ1 n1 V ho hk hR;replace hs :=Aside0.mk (hs.out.trans (Tr.run_ok ho));clear ho;(try dsimp only [Rw.put,Rw.regs,Rw.fetched] at hR);replace h :=Aside0.mk hR;replace HK :=Aside0.mk (HK.out.trans hk);clear hR hk) | (go_at_call 61;refine (zbt hP _).mono ?_;rintro e V ⟨rfl,hb⟩;replace h :=Aside0.mk (h.out.under hb);replace HK :=Aside0.mk (HK.out.andBelow hb);clear hb));skip;skip;skip)
 all_goals ((go_end0;exact Post.done (enc :=fun _ : Unit => Value.tuple #[]) hs.out HK.out h.out))
theorem more_no1 {W : World} {g : Nat} {A : Option Addr} {gl : List Int} {cp n : Nat} {ρ : Rw} (h : RowAt W g A gl cp n ρ) (op y z p q : Int) (hP : zbb op = (2,y,z,p,q)) (hy : decide (4 ≤ y) = false) :
  Calls Tryz.prog 73 #[.pointer (some ⟨g,0,none⟩),.int .i64 op] W (Post W g A gl cp (fun _ : Unit => .tuple #[]) (Tr.run gl (.ret () ρ) n)) :=by
 obtain ⟨o,ho⟩ : ∃ o,o = Tr.run gl (.ret () ρ) n :=⟨_,rfl⟩
 rw [← ho]
 have hs :=ho
 clear ho
 replace hs :=Aside0.mk hs
 have HK :=Aside0.mk (Kp.refl g W)
 replace h :=Aside0.mk h
 skip;skip
 go_enter Tryz.func73,Tryz.ntmps73
 go_wp2_with (go_at_call 61;refine (zbt hP _).mono ?_;rintro e V ⟨rfl,hb⟩;replace h :=Aside0.mk (h.out.under hb);replace HK :=Aside0.mk (HK.out.andBelow hb);clear hb;skip;skip;skip)
 all_goals ((go_end0;exact Post.done (enc :=fun _ : Unit => Value.tuple #[]) hs.out HK.out h.out))
theorem more_no2 {W : World} {g : Nat} {A : Option Addr} {gl : List Int} {cp n : Nat} {ρ : Rw} (h : RowAt W g A gl cp n ρ) (op y z p q : Int) (hP : zbb op = (2,y,z,p,q)) (hy : decide (4 ≤ y) = true) (hz : decide (z ≤ 3) = false) :
  Calls Tryz.prog 73 #[.pointer (some ⟨g,0,none⟩),.int .i64 op] W (Post W g A gl cp (fun _ : Unit => .tuple #[]) (Tr.run gl (.ret () ρ) n)) :=by
 obtain ⟨o,ho⟩ : ∃ o,o = Tr.run gl (.ret () ρ) n :=⟨_,rfl⟩
 rw [← ho]
 have hs :=ho
 clear ho
 replace hs :=Aside0.mk hs
 have HK :=Aside0.mk (Kp.refl g W)
 replace h :=Aside0.mk h
 skip;skip
 go_enter Tryz.func73,Tryz.ntmps73
 go_wp2_with (go_at_call 61;refine (zbt hP _).mono ?_;rintro e V ⟨rfl,hb⟩;replace h :=Aside0.mk (h.out.under hb);replace HK :=Aside0.mk (HK.out.andBelow hb);clear hb;skip;skip;skip)
 all_goals ((go_end0;exact Post.done (enc :=fun _ : Unit => Value.tuple #[]) hs.out HK.out h.out))
theorem more_no3 {W : World} {g : Nat} {A : Option Addr} {gl : List Int} {cp n : Nat} {ρ : Rw} (h : RowAt W g A gl cp n ρ) (op x y z p q : Int) (hP : zbb op = (x,y,z,p,q)) (hx2 : (x == 2) = false) (hx1 : (x != 1) = true) :
  Calls Tryz.prog 73 #[.pointer (some ⟨g,0,none⟩),.int .i64 op] W (Post W g A gl cp (fun _ : Unit => .tuple #[]) (Tr.run gl (.ret () ρ) n)) :=by
 obtain ⟨o,ho⟩ : ∃ o,o = Tr.run gl (.ret () ρ) n :=⟨_,rfl⟩
 rw [← ho]
 have hs :=ho
 clear ho
 replace hs :=Aside0.mk hs
 have HK :=Aside0.mk (Kp.refl g W)
 replace h :=Aside0.mk h
 skip;skip
 go_enter Tryz.func73,Tryz.ntmps73
 go_wp2_with (go_at_call 61;refine (zbt hP _).mono ?_;rintro e V ⟨rfl,hb⟩;replace h :=Aside0.mk (h.out.under hb);replace HK :=Aside0.mk (HK.out.andBelow hb);clear hb;skip;skip;skip)
 all_goals ((go_end0;exact Post.done (enc :=fun _ : Unit => Value.tuple #[]) hs.out HK.out h.out))
theorem more_0 {W : World} {g : Nat} {A : Option Addr} {gl : List Int} {cp n : Nat} {ρ : Rw} (h : RowAt W g A gl cp n ρ) (op y p q : Int) (hP : zbb op = (1,y,0,p,q)) :
  Calls Tryz.prog 73 #[.pointer (some ⟨g,0,none⟩),.int .i64 op] W (Post W g A gl cp (fun _ : Unit => .tuple #[]) (Tr.run gl (ρ.more1 y 0 p q) n)) :=by
 obtain ⟨o,ho⟩ : ∃ o,o = Tr.run gl (ρ.more1 y 0 p q) n :=⟨_,rfl⟩
 rw [← ho]
 have hs :=ho
 clear ho
 unfold Rw.more1 Rw.bc0 ownFlags at hs
 rw [if_pos rfl] at hs
 replace hs :=Aside0.mk hs
 have HK :=Aside0.mk (Kp.refl g W)
 replace h :=Aside0.mk h
 skip;have c1 :=h.out.cell 1 _ rfl;have c2 :=h.out.cell 2 _ rfl;have c3 :=h.out.cell 3 _ rfl;have c6 :=h.out.cell 6 _ rfl;have c7 :=h.out.cell 7 _ rfl;(try dsimp only [Rw.put,Rw.regs,Rw.fetched] at c1 c2 c3 c6 c7)
 go_enter Tryz.func73,Tryz.ntmps73
 go_wp2_with (first | ((first | ((first | (go_at_call 99;  refine Post.cpsA (inp h.out _) ?_ ?_;(· exact (fun k a v t V ho hk => ⟨rfl,Post.asks (hs.out.trans (Tr.run_ask ho)) (HK.out.trans hk)⟩));intro v ρ1 n1 V ho hk hR;replace hs :=Aside0.mk (hs.out.trans (Tr.run_ok ho));have hv :=Aside0.mk (inp_val h.out ho);(have hi :=inp_inv ho;subst hi);clear ho) | ((first | ((with_reducible refine gate_store 22 ?_);refine zae h.out rfl _ _ rfl _ _ rfl rfl rfl (by decide) ?_) | ((with_reducible refine gate_store 5 ?_);refine zas h.out rfl _ _ rfl _ _ rfl rfl rfl (by decide) ?_) | ((with_reducible refine gate_store 24 ?_);refine zaz h.out rfl _ _ rfl _ rfl rfl ?_));intro V hk hR));(try dsimp only [Rw.put,Rw.regs,Rw.fetched] at hR);replace h :=Aside0.mk hR;replace HK :=Aside0.mk (HK.out.trans hk);clear hR hk) | ((first | (go_at_call 61;refine (zbt hP _).mono ?_) | (go_at_call 82;refine (zat _ _ _).mono ?_) | (go_at_call 90;refine (Put _ _ _ _ _).mono ?_));rintro e V ⟨rfl,hb⟩;replace h :=Aside0.mk (h.out.under hb);replace HK :=Aside0.mk (HK.out.andBelow hb);clear hb) | ((first | ((first | ((with_reducible refine gate_region 5 ?_);(refine zad (RC g W A gl cp _ _) [(0,0),(1,0),(2,0),(4,0),(5,0),(6,0),(3,1),(7,1)] [8,9] [8,9] 10 (by kernel_rfl) rfl rfl (by kernel_rfl) (by intro c a d v w h;cases d <;> exact h) (RC.mk (HK.out.drewN 1) (h.out.drewN 1)) (fun V hS0 => ?_));(repeat ((first | (refine Sch.pureN (v :=?_) (a' :=?_) rfl rfl (by rfl) ?_ ?_ ?_;rotate_left 2;(· (intro w';go_simp <;> with_reducible rfl))) | (refine Sch.takeN (v :=?_) (a' :=?_) rfl rfl (by rfl) hS0 ?_ ?_ ?_;rotate_left 2;(· (intro w' hS';(first | (have q :=hS'.row.cell 2 _ rfl;(try dsimp only [Rw.put,Rw.regs,Rw.fetched] at q);go_simp <;> with_reducible rfl) | (have q :=hS'.row.cell 3 _ rfl;(try dsimp only [Rw.put,Rw.regs,Rw.fetched] at q);go_simp <;> with_reducible rfl))))));(· (simp only [aput] <;> rfl))))) | ((with_reducible refine gate_region 6 ?_);(refine zad (RC g W A gl cp _ _) [(0,0),(1,0),(2,0),(4,0),(5,0),(6,0),(3,1),(7,1)] [8,9] [8,9] 10 (by kernel_rfl) rfl rfl (by kernel_rfl) (by intro c a d v w h;cases d <;> exact h) (RC.mk (HK.out.drewN 1) (h.out.drewN 1)) (fun V hS0 => ?_));(repeat ((first | (refine Sch.pureN (v :=?_) (a' :=?_) rfl rfl (by rfl) ?_ ?_ ?_;rotate_left 2;(· (intro w';go_simp <;> with_reducible rfl))) | (refine Sch.takeN (v :=?_) (a' :=?_) rfl rfl (by rfl) hS0 ?_ ?_ ?_;rotate_left 2;(· (intro w' hS';(first | (have q :=hS'.row.cell 6 _ rfl;(try dsimp only [Rw.put,Rw.regs,Rw.fetched] at q);go_simp <;> with_reducible rfl) | (have q :=hS'.row.cell 7 _ rfl;(try dsimp only [Rw.put,Rw.regs,Rw.fetched] at q);go_simp <;> with_reducible rfl))))));(· (simp only [aput] <;> rfl))))));(refine Sch.tail 8 2 rfl rfl ?_;simp only [List.drop_succ_cons,List.drop_zero,List.drop_nil])) | ((with_reducible refine gate_region 12 ?_);(refine zad (RC g W A gl cp _ _) [(0,0),(1,0),(3,0),(7,0),(8,0),(9,0),(10,1),(11,0),(2,2),(4,2),(5,2),(6,0)] [12,13,14,15] [12,13,14,15] 16 (by kernel_rfl) rfl rfl (by kernel_rfl) (by intro c a d v w h;cases d <;> exact h) (RC.mk (HK.out.drewN 1) (h.out.drewN 1)) (fun V hS0 => ?_));(repeat ((first | (refine Sch.pureN (v :=?_) (a' :=?_) rfl rfl (by rfl) ?_ ?_ ?_;rotate_left 2;(· (intro w';go_simp <;> with_reducible rfl))) | (refine Sch.takeN (v :=?_) (a' :=?_) rfl rfl (by rfl) hS0 ?_ ?_ ?_;rotate_left 2;(· (intro w' hS';(have q :=hS'.row.cell 1 _ rfl;(try dsimp only [Rw.put,Rw.regs,Rw.fetched] at q);go_simp <;> with_reducible rfl)))));(· (simp only [aput] <;> rfl))));(refine Sch.call (N :=(some 79)) rfl rfl Tryz.func100 (by kernel_rfl) rfl ?_ (by rfl) rfl ?_ ?_;rotate_left;(· (go_simp <;> with_reducible rfl));refine (c_alu_Own _ _).mono ?_;rintro e V ⟨rfl,hb⟩;replace hS0 :=hS0.step hb;clear hb;refine ⟨hS0,?_⟩;refine Sch.norm (a' :=?_) ?_ ?_;rotate_left;(· (simp only [aput] <;> rfl)));(refine Sch.call (N :=(some 81)) rfl rfl Tryz.func102 (by kernel_rfl) rfl ?_ (by rfl) rfl ?_ ?_;rotate_left;(· (go_simp <;> with_reducible rfl));refine (c_alu_Parity _ _ hv.out).mono ?_;rintro e V ⟨rfl,hb⟩;replace hS0 :=hS0.step hb;clear hb;refine ⟨hS0,?_⟩;refine Sch.norm (a' :=?_) ?_ ?_;rotate_left;(· (simp only [aput] <;> rfl)));(refine Sch.call (N :=(some 82)) rfl rfl Tryz.func101 (by kernel_rfl) rfl ?_ (by rfl) rfl ?_ ?_;rotate_left;(· (go_simp <;> with_reducible rfl));refine (c_step_if1 _ _ _).mono ?_;rintro e V ⟨rfl,hb⟩;replace hS0 :=hS0.step hb;clear hb;refine ⟨hS0,?_⟩;refine Sch.norm (a' :=?_) ?_ ?_;rotate_left;(· (simp only [aput] <;> rfl)));(refine Sch.pure (N :=(some 83)) (v :=?_) (a' :=?_) rfl rfl (by rfl) ?_ ?_ ?_;rotate_left 2;(· (intro w';go_simp <;> with_reducible rfl));(· (simp only [aput] <;> rfl)));(refine Sch.tail 12 4 rfl rfl ?_;simp only [List.drop_succ_cons,List.drop_zero,List.drop_nil])));clear h HK;have h :=Aside0.mk hS0.row;have HK :=Aside0.mk hS0.kp;clear hS0));(try clear c1 c2 c3 c6 c7);skip;have c1 :=h.out.cell 1 _ rfl;have c2 :=h.out.cell 2 _ rfl;have c3 :=h.out.cell 3 _ rfl;have c6 :=h.out.cell 6 _ rfl;have c7 :=h.out.cell 7 _ rfl;(try dsimp only [Rw.put,Rw.regs,Rw.fetched] at c1 c2 c3 c6 c7)) | ((with_reducible refine gate_load 24 ?_);refine zay h.out rfl _ rfl rfl ?_))
 all_goals ((go_end0;exact Post.done (enc :=fun _ : Unit => Value.tuple #[]) hs.out HK.out h.out))
theorem more_1 {W : World} {g : Nat} {A : Option Addr} {gl : List Int} {cp n : Nat} {ρ : Rw} (h : RowAt W g A gl cp n ρ) (op y p q : Int) (hP : zbb op = (1,y,1,p,q)) :
  Calls Tryz.prog 73 #[.pointer (some ⟨g,0,none⟩),.int .i64 op] W (Post W g A gl cp (fun _ : Unit => .tuple #[]) (Tr.run gl (ρ.more1 y 1 p q) n)) :=by
 obtain ⟨o,ho⟩ : ∃ o,o = Tr.run gl (ρ.more1 y 1 p q) n :=⟨_,rfl⟩
 rw [← ho]
 have hs :=ho
 clear ho
 unfold Rw.more1 Rw.bc0 at hs
 rw [if_neg (by decide)] at hs;rw [if_pos rfl] at hs
 replace hs :=Aside0.mk hs
 have HK :=Aside0.mk (Kp.refl g W)
 replace h :=Aside0.mk h
 skip;have c2 :=h.out.cell 2 _ rfl;have c3 :=h.out.cell 3 _ rfl;have c6 :=h.out.cell 6 _ rfl;have c7 :=h.out.cell 7 _ rfl;(try dsimp only [Rw.put,Rw.regs,Rw.fetched] at c2 c3 c6 c7)
 go_enter Tryz.func73,Tryz.ntmps73
 go_wp2_with (first | ((first | ((first | (go_at_call 103;  refine Post.cpsA (out h.out _ _) ?_ ?_;(· exact (fun k a v t V ho hk => ⟨rfl,Post.asks (hs.out.trans (Tr.run_ask ho)) (HK.out.trans hk)⟩));intro v ρ1 n1 V ho hk hR;replace hs :=Aside0.mk (hs.out.trans (Tr.run_ok ho));(have hi :=out_inv ho;subst hi);clear ho) | ((((with_reducible refine gate_store 22 ?_);refine zae h.out rfl _ _ rfl _ _ rfl rfl rfl (by decide) ?_));intro V hk hR));(try dsimp only [Rw.put,Rw.regs,Rw.fetched] at hR);replace h :=Aside0.mk hR;replace HK :=Aside0.mk (HK.out.trans hk);clear hR hk) | ((first | (go_at_call 61;refine (zbt hP _).mono ?_) | (go_at_call 82;refine (zat _ _ _).mono ?_) | (go_at_call 93;refine (Get _ _ _ _).mono ?_));rintro e V ⟨rfl,hb⟩;replace h :=Aside0.mk (h.out.under hb);replace HK :=Aside0.mk (HK.out.andBelow hb);clear hb) | ((first | ((with_reducible refine gate_region 5 ?_);(refine zad (RC g W A gl cp _ _) [(0,0),(1,0),(2,0),(4,0),(5,0),(6,0),(3,1),(7,1)] [8,9] [8,9] 10 (by kernel_rfl) rfl rfl (by kernel_rfl) (by intro c a d v w h;cases d <;> exact h) (RC.mk (HK.out.drewN 1) (h.out.drewN 1)) (fun V hS0 => ?_));(repeat ((first | (refine Sch.pureN (v :=?_) (a' :=?_) rfl rfl (by rfl) ?_ ?_ ?_;rotate_left 2;(· (intro w';go_simp <;> with_reducible rfl))) | (refine Sch.takeN (v :=?_) (a' :=?_) rfl rfl (by rfl) hS0 ?_ ?_ ?_;rotate_left 2;(· (intro w' hS';(first | (have q :=hS'.row.cell 2 _ rfl;(try dsimp only [Rw.put,Rw.regs,Rw.fetched] at q);go_simp <;> with_reducible rfl) | (have q :=hS'.row.cell 3 _ rfl;(try dsimp only [Rw.put,Rw.regs,Rw.fetched] at q);go_simp <;> with_reducible rfl))))));(· (simp only [aput] <;> rfl))))) | ((with_reducible refine gate_region 6 ?_);(refine zad (RC g W A gl cp _ _) [(0,0),(1,0),(2,0),(4,0),(5,0),(6,0),(3,1),(7,1)] [8,9] [8,9] 10 (by kernel_rfl) rfl rfl (by kernel_rfl) (by intro c a d v w h;cases d <;> exact h) (RC.mk (HK.out.drewN 1) (h.out.drewN 1)) (fun V hS0 => ?_));(repeat ((first | (refine Sch.pureN (v :=?_) (a' :=?_) rfl rfl (by rfl) ?_ ?_ ?_;rotate_left 2;(· (intro w';go_simp <;> with_reducible rfl))) | (refine Sch.takeN (v :=?_) (a' :=?_) rfl rfl (by rfl) hS0 ?_ ?_ ?_;rotate_left 2;(· (intro w' hS';(first | (have q :=hS'.row.cell 6 _ rfl;(try dsimp only [Rw.put,Rw.regs,Rw.fetched] at q);go_simp <;> with_reducible rfl) | (have q :=hS'.row.cell 7 _ rfl;(try dsimp only [Rw.put,Rw.regs,Rw.fetched] at q);go_simp <;> with_reducible rfl))))));(· (simp only [aput] <;> rfl))))));(refine Sch.tail 8 2 rfl rfl ?_;simp only [List.drop_succ_cons,List.drop_zero,List.drop_nil]);clear h HK;have h :=Aside0.mk hS0.row;have HK :=Aside0.mk hS0.kp;clear hS0));(try clear c2 c3 c6 c7);skip;have c2 :=h.out.cell 2 _ rfl;have c3 :=h.out.cell 3 _ rfl;have c6 :=h.out.cell 6 _ rfl;have c7 :=h.out.cell 7 _ rfl;(try dsimp only [Rw.put,Rw.regs,Rw.fetched] at c2 c3 c6 c7)) | ((with_reducible refine gate_load 24 ?_);refine zay h.out rfl _ rfl rfl ?_))
 all_goals ((go_end0;exact Post.done (enc :=fun _ : Unit => Value.tuple #[]) hs.out HK.out h.out))
theorem more_2 {W : World} {g : Nat} {A : Option Addr} {gl : List Int} {cp n : Nat} {ρ : Rw} (h : RowAt W g A gl cp n ρ) (op y p q : Int) (hP : zbb op = (1,y,2,p,q)) :
  Calls Tryz.prog 73 #[.pointer (some ⟨g,0,none⟩),.int .i64 op] W (Post W g A gl cp (fun _ : Unit => .tuple #[]) (Tr.run gl (ρ.more1 y 2 p q) n)) :=by
 obtain ⟨o,ho⟩ : ∃ o,o = Tr.run gl (ρ.more1 y 2 p q) n :=⟨_,rfl⟩
 rw [← ho]
 have hs :=ho
 clear ho
 unfold Rw.more1 Rw.hl0 zbk at hs
 rw [if_neg (by decide)] at hs;rw [if_neg (by decide)] at hs;rw [if_pos rfl] at hs
 replace hs :=Aside0.mk hs
 have HK :=Aside0.mk (Kp.refl g W)
 replace h :=Aside0.mk h
 skip;have c1 :=h.out.cell 1 _ rfl;have c2 :=h.out.cell 2 _ rfl;have c3 :=h.out.cell 3 _ rfl;have c6 :=h.out.cell 6 _ rfl;have c7 :=h.out.cell 7 _ rfl;(try dsimp only [Rw.put,Rw.regs,Rw.fetched] at c1 c2 c3 c6 c7)
 go_enter Tryz.func73,Tryz.ntmps73
 go_wp2_with ((((first | ((first | (go_at_call 85;(try (repeat (split at hs <;> skip)));refine Post.cpsA (idle h.out _) ?_ ?_;(· exact (fun k a v t V ho hk => ⟨rfl,Post.asks (hs.out.trans (Tr.run_ask ho)) (HK.out.trans hk)⟩));intro v ρ1 n1 V ho hk hR;replace hs :=Aside0.mk (hs.out.trans (Tr.run_ok ho));(have hi :=zbd ho;subst hi);clear ho) | ((first | ((with_reducible refine gate_store 22 ?_);refine zae h.out rfl _ _ rfl _ _ rfl rfl rfl (by decide) ?_) | ((with_reducible refine gate_store 5 ?_);refine zas h.out rfl _ _ rfl _ _ rfl rfl rfl (by decide) ?_));intro V hk hR));(try dsimp only [Rw.put,Rw.regs,Rw.fetched] at hR);replace h :=Aside0.mk hR;replace HK :=Aside0.mk (HK.out.trans hk);clear hR hk) | ((first | (go_at_call 61;refine (zbt hP _).mono ?_) | (go_at_call 82;refine (zat _ _ _).mono ?_) | (go_at_call 107;refine (zbe _ _).mono ?_));rintro e V ⟨rfl,hb⟩;replace h :=Aside0.mk (h.out.under hb);replace HK :=Aside0.mk (HK.out.andBelow hb);clear hb) | ((first | ((first | ((with_reducible refine gate_region 5 ?_);(refine zad (RC g W A gl cp _ _) [(0,0),(1,0),(2,0),(4,0),(5,0),(6,0),(3,1),(7,1)] [8,9] [8,9] 10 (by kernel_rfl) rfl rfl (by kernel_rfl) (by intro c a d v w h;cases d <;> exact h) (RC.mk (HK.out.drewN 1) (h.out.drewN 1)) (fun V hS0 => ?_));(repeat ((first | (refine Sch.pureN (v :=?_) (a' :=?_) rfl rfl (by rfl) ?_ ?_ ?_;rotate_left 2;(· (intro w';go_simp <;> with_reducible rfl))) | (refine Sch.takeN (v :=?_) (a' :=?_) rfl rfl (by rfl) hS0 ?_ ?_ ?_;rotate_left 2;(· (intro w' hS';(first | (have q :=hS'.row.cell 2 _ rfl;(try dsimp only [Rw.put,Rw.regs,Rw.fetched] at q);go_simp <;> with_reducible rfl) | (have q :=hS'.row.cell 3 _ rfl;(try dsimp only [Rw.put,Rw.regs,Rw.fetched] at q);go_simp <;> with_reducible rfl))))));(· (simp only [aput] <;> rfl))))) | ((with_reducible refine gate_region 6 ?_);(refine zad (RC g W A gl cp _ _) [(0,0),(1,0),(2,0),(4,0),(5,0),(6,0),(3,1),(7,1)] [8,9] [8,9] 10 (by kernel_rfl) rfl rfl (by kernel_rfl) (by intro c a d v w h;cases d <;> exact h) (RC.mk (HK.out.drewN 1) (h.out.drewN 1)) (fun V hS0 => ?_));(repeat ((first | (refine Sch.pureN (v :=?_) (a' :=?_) rfl rfl (by rfl) ?_ ?_ ?_;rotate_left 2;(· (intro w';go_simp <;> with_reducible rfl))) | (refine Sch.takeN (v :=?_) (a' :=?_) rfl rfl (by rfl) hS0 ?_ ?_ ?_;rotate_left 2;(· (intro w' hS';(first | (have q :=hS'.row.cell 6 _ rfl;(try dsimp only [Rw.put,Rw.regs,Rw.fetched] at q);go_simp <;> with_reducible rfl) | (have q :=hS'.row.cell 7 _ rfl;(try dsimp only [Rw.put,Rw.regs,Rw.fetched] at q);go_simp <;> with_reducible rfl))))));(· (simp only [aput] <;> rfl))))));(refine Sch.tail 8 2 rfl rfl ?_;simp only [List.drop_succ_cons,List.drop_zero,List.drop_nil])) | ((first | ((with_reducible refine gate_region 22 ?_);(refine zad (RC g W A gl cp _ _) [(0,0),(1,0),(2,0),(3,0),(5,0),(6,0),(7,0),(8,1),(4,2),(9,2),(10,0),(11,0),(12,0)] [13,14,15,16] [13,14,15,16] 17 (by kernel_rfl) rfl rfl (by kernel_rfl) (by intro c a d v w h;cases d <;> exact h) (RC.mk (HK.out.drewN 1) (h.out.drewN 1)) (fun V hS0 => ?_));(repeat ((first | (refine Sch.pureN (v :=?_) (a' :=?_) rfl rfl (by rfl) ?_ ?_ ?_;rotate_left 2;(· (intro w';go_simp <;> with_reducible rfl))) | (refine Sch.takeN (v :=?_) (a' :=?_) rfl rfl (by rfl) hS0 ?_ ?_ ?_;rotate_left 2;(· (intro w' hS';(have q :=hS'.row.cell 1 _ rfl;(try dsimp only [Rw.put,Rw.regs,Rw.fetched] at q);go_simp <;> with_reducible rfl)))));(· (simp only [aput] <;> rfl))));(refine Sch.call (N :=(some 128)) rfl rfl Tryz.func105 (by kernel_rfl) rfl ?_ (by rfl) rfl ?_ ?_;rotate_left;(· (go_simp <;> with_reducible rfl));refine (pair hS0.row _ _).mono ?_;rintro e V ⟨hk,rfl,hR⟩;replace hS0 :=RC.mk (hS0.kp.trans hk) hR;clear hk hR;refine ⟨hS0,?_⟩;refine Sch.norm (a' :=?_) ?_ ?_;rotate_left;(· (simp only [aput] <;> rfl)));(refine Sch.call (N :=(some 133)) rfl rfl Tryz.func104 (by kernel_rfl) rfl ?_ (by rfl) rfl ?_ ?_;rotate_left;(· (go_simp <;> with_reducible rfl));refine (c_wide_Sbc _ _ _ _).mono ?_;rintro e V ⟨rfl,hb⟩;replace hS0 :=hS0.step hb;clear hb;refine ⟨hS0,?_⟩;refine Sch.norm (a' :=?_) ?_ ?_;rotate_left;(· (simp only [aput] <;> rfl)))) | ((with_reducible refine gate_region 23 ?_);(refine zad (RC g W A gl cp _ _) [(0,0),(1,0),(2,0),(3,0),(5,0),(6,0),(7,0),(8,1),(4,2),(9,2),(10,0),(11,0),(12,0)] [13,14,15,16] [13,14,15,16] 17 (by kernel_rfl) rfl rfl (by kernel_rfl) (by intro c a d v w h;cases d <;> exact h) (RC.mk (HK.out.drewN 1) (h.out.drewN 1)) (fun V hS0 => ?_));(repeat ((first | (refine Sch.pureN (v :=?_) (a' :=?_) rfl rfl (by rfl) ?_ ?_ ?_;rotate_left 2;(· (intro w';go_simp <;> with_reducible rfl))) | (refine Sch.takeN (v :=?_) (a' :=?_) rfl rfl (by rfl) hS0 ?_ ?_ ?_;rotate_left 2;(· (intro w' hS';(have q :=hS'.row.cell 1 _ rfl;(try dsimp only [Rw.put,Rw.regs,Rw.fetched] at q);go_simp <;> with_reducible rfl)))));(· (simp only [aput] <;> rfl))));(refine Sch.call (N :=(some 143)) rfl rfl Tryz.func105 (by kernel_rfl) rfl ?_ (by rfl) rfl ?_ ?_;rotate_left;(· (go_simp <;> with_reducible rfl));refine (pair hS0.row _ _).mono ?_;rintro e V ⟨hk,rfl,hR⟩;replace hS0 :=RC.mk (hS0.kp.trans hk) hR;clear hk hR;refine ⟨hS0,?_⟩;refine Sch.norm (a' :=?_) ?_ ?_;rotate_left;(· (simp only [aput] <;> rfl)));(refine Sch.call (N :=(some 148)) rfl rfl Tryz.func106 (by kernel_rfl) rfl ?_ (by rfl) rfl ?_ ?_;rotate_left;(· (go_simp <;> with_reducible rfl));refine (c_wide_Adc _ _ _ _).mono ?_;rintro e V ⟨rfl,hb⟩;replace hS0 :=hS0.step hb;clear hb;refine ⟨hS0,?_⟩;refine Sch.norm (a' :=?_) ?_ ?_;rotate_left;(· (simp only [aput] <;> rfl)))));(repeat ((refine Sch.pureN (v :=?_) (a' :=?_) rfl rfl (by rfl) ?_ ?_ ?_;rotate_left 2;(· (intro w';go_simp <;> with_reducible rfl)));(· (simp only [aput] <;> rfl))));(refine Sch.tail 13 4 rfl rfl ?_;simp only [List.drop_succ_cons,List.drop_zero,List.drop_nil])));clear h HK;have h :=Aside0.mk hS0.row;have HK :=Aside0.mk hS0.kp;clear hS0));(try clear c1 c2 c3 c6 c7);skip;have c1 :=h.out.cell 1 _ rfl;have c2 :=h.out.cell 2 _ rfl;have c3 :=h.out.cell 3 _ rfl;have c6 :=h.out.cell 6 _ rfl;have c7 :=h.out.cell 7 _ rfl;(try dsimp only [Rw.put,Rw.regs,Rw.fetched] at c1 c2 c3 c6 c7))))
 all_goals ((go_end0;exact Post.done (enc :=fun _ : Unit => Value.tuple #[]) hs.out HK.out h.out))
theorem more_3 {W : World} {g : Nat} {A : Option Addr} {gl : List Int} {cp n : Nat} {ρ : Rw} (h : RowAt W g A gl cp n ρ) (op y p q : Int) (hP : zbb op = (1,y,3,p,q)) :
  Calls Tryz.prog 73 #[.pointer (some ⟨g,0,none⟩),.int .i64 op] W (Post W g A gl cp (fun _ : Unit => .tuple #[]) (Tr.run gl (ρ.more1 y 3 p q) n)) :=by
 obtain ⟨o,ho⟩ : ∃ o,o = Tr.run gl (ρ.more1 y 3 p q) n :=⟨_,rfl⟩
 rw [← ho]
 have hs :=ho
 clear ho
 unfold Rw.more1 at hs
 rw [if_neg (by decide)] at hs;rw [if_neg (by decide)] at hs;rw [if_neg (by decide)] at hs;rw [if_pos rfl] at hs
 replace hs :=Aside0.mk hs
 have HK :=Aside0.mk (Kp.refl g W)
 replace h :=Aside0.mk h
 skip;have c2 :=h.out.cell 2 _ rfl;have c3 :=h.out.cell 3 _ rfl;have c6 :=h.out.cell 6 _ rfl;have c7 :=h.out.cell 7 _ rfl;(try dsimp only [Rw.put,Rw.regs,Rw.fetched] at c2 c3 c6 c7)
 go_enter Tryz.func73,Tryz.ntmps73
 go_wp2_with ((((first | ((first | ((first | go_at_call 108 | go_at_call 110 | go_at_call 109);(try (repeat (split at hs <;> first | (exfalso;(simp_all;done)) | skip)));(first | (go_at_call 108;refine Post.cpsA (store h.out _) ?_ ?_) | (go_at_call 110;refine Post.cpsA (load h.out) ?_ ?_) | (go_at_call 109;refine Post.cpsA (putPair h.out _ _ _) ?_ ?_));(· exact (fun k a v t V ho hk => ⟨rfl,Post.asks (hs.out.trans (Tr.run_ask ho)) (HK.out.trans hk)⟩));intro v ρ1 n1 V ho hk hR;replace hs :=Aside0.mk (hs.out.trans (Tr.run_ok ho));(first | (have hi :=putPair_inv ho;subst hi) | skip);clear ho) | (go_at_call 105;refine (pair h.out _ _).mono ?_;rintro e V ⟨hk,rfl,hR⟩));(try dsimp only [Rw.put,Rw.regs,Rw.fetched] at hR);replace h :=Aside0.mk hR;replace HK :=Aside0.mk (HK.out.trans hk);clear hR hk) | ((first | (go_at_call 61;refine (zbt hP _).mono ?_) | (go_at_call 82;refine (zat _ _ _).mono ?_));rintro e V ⟨rfl,hb⟩;replace h :=Aside0.mk (h.out.under hb);replace HK :=Aside0.mk (HK.out.andBelow hb);clear hb) | ((first | ((with_reducible refine gate_region 5 ?_);(refine zad (RC g W A gl cp _ _) [(0,0),(1,0),(2,0),(4,0),(5,0),(6,0),(3,1),(7,1)] [8,9] [8,9] 10 (by kernel_rfl) rfl rfl (by kernel_rfl) (by intro c a d v w h;cases d <;> exact h) (RC.mk (HK.out.drewN 1) (h.out.drewN 1)) (fun V hS0 => ?_));(repeat ((first | (refine Sch.pureN (v :=?_) (a' :=?_) rfl rfl (by rfl) ?_ ?_ ?_;rotate_left 2;(· (intro w';go_simp <;> with_reducible rfl))) | (refine Sch.takeN (v :=?_) (a' :=?_) rfl rfl (by rfl) hS0 ?_ ?_ ?_;rotate_left 2;(· (intro w' hS';(first | (have q :=hS'.row.cell 2 _ rfl;(try dsimp only [Rw.put,Rw.regs,Rw.fetched] at q);go_simp <;> with_reducible rfl) | (have q :=hS'.row.cell 3 _ rfl;(try dsimp only [Rw.put,Rw.regs,Rw.fetched] at q);go_simp <;> with_reducible rfl))))));(· (simp only [aput] <;> rfl))))) | ((with_reducible refine gate_region 6 ?_);(refine zad (RC g W A gl cp _ _) [(0,0),(1,0),(2,0),(4,0),(5,0),(6,0),(3,1),(7,1)] [8,9] [8,9] 10 (by kernel_rfl) rfl rfl (by kernel_rfl) (by intro c a d v w h;cases d <;> exact h) (RC.mk (HK.out.drewN 1) (h.out.drewN 1)) (fun V hS0 => ?_));(repeat ((first | (refine Sch.pureN (v :=?_) (a' :=?_) rfl rfl (by rfl) ?_ ?_ ?_;rotate_left 2;(· (intro w';go_simp <;> with_reducible rfl))) | (refine Sch.takeN (v :=?_) (a' :=?_) rfl rfl (by rfl) hS0 ?_ ?_ ?_;rotate_left 2;(· (intro w' hS';(first | (have q :=hS'.row.cell 6 _ rfl;(try dsimp only [Rw.put,Rw.regs,Rw.fetched] at q);go_simp <;> with_reducible rfl) | (have q :=hS'.row.cell 7 _ rfl;(try dsimp only [Rw.put,Rw.regs,Rw.fetched] at q);go_simp <;> with_reducible rfl))))));(· (simp only [aput] <;> rfl))))));(refine Sch.tail 8 2 rfl rfl ?_;simp only [List.drop_succ_cons,List.drop_zero,List.drop_nil]);clear h HK;have h :=Aside0.mk hS0.row;have HK :=Aside0.mk hS0.kp;clear hS0));(try clear c2 c3 c6 c7);skip;have c2 :=h.out.cell 2 _ rfl;have c3 :=h.out.cell 3 _ rfl;have c6 :=h.out.cell 6 _ rfl;have c7 :=h.out.cell 7 _ rfl;(try dsimp only [Rw.put,Rw.regs,Rw.fetched] at c2 c3 c6 c7))))
 all_goals ((go_end0;exact Post.done (enc :=fun _ : Unit => Value.tuple #[]) hs.out HK.out h.out))
theorem more_4 {W : World} {g : Nat} {A : Option Addr} {gl : List Int} {cp n : Nat} {ρ : Rw} (h : RowAt W g A gl cp n ρ) (op y p q : Int) (hP : zbb op = (1,y,4,p,q)) :
  Calls Tryz.prog 73 #[.pointer (some ⟨g,0,none⟩),.int .i64 op] W (Post W g A gl cp (fun _ : Unit => .tuple #[]) (Tr.run gl (ρ.more1 y 4 p q) n)) :=by
 obtain ⟨o,ho⟩ : ∃ o,o = Tr.run gl (ρ.more1 y 4 p q) n :=⟨_,rfl⟩
 rw [← ho]
 have hs :=ho
 clear ho
 unfold Rw.more1 at hs
 rw [if_neg (by decide)] at hs;rw [if_neg (by decide)] at hs;rw [if_neg (by decide)] at hs;rw [if_neg (by decide)] at hs;rw [if_pos rfl] at hs
 replace hs :=Aside0.mk hs
 have HK :=Aside0.mk (Kp.refl g W)
 replace h :=Aside0.mk h
 skip;have c0 :=h.out.cell 0 _ rfl;have c2 :=h.out.cell 2 _ rfl;have c3 :=h.out.cell 3 _ rfl;have c6 :=h.out.cell 6 _ rfl;have c7 :=h.out.cell 7 _ rfl;(try dsimp only [Rw.put,Rw.regs,Rw.fetched] at c0 c2 c3 c6 c7)
 go_enter Tryz.func73,Tryz.ntmps73
 go_wp2_with ((((first | ((first | (go_at_call 61;refine (zbt hP _).mono ?_) | (go_at_call 82;refine (zat _ _ _).mono ?_) | (go_at_call 111;refine (c_alu_Neg _ _).mono ?_));rintro e V ⟨rfl,hb⟩;replace h :=Aside0.mk (h.out.under hb);replace HK :=Aside0.mk (HK.out.andBelow hb);clear hb) | ((((with_reducible refine gate_store 5 ?_);refine zas h.out rfl _ _ rfl _ _ rfl rfl rfl (by decide) ?_));intro V hk hR;(try dsimp only [Rw.put,Rw.regs,Rw.fetched] at hR);replace h :=Aside0.mk hR;replace HK :=Aside0.mk (HK.out.trans hk);clear hR hk) | ((first | ((with_reducible refine gate_region 5 ?_);(refine zad (RC g W A gl cp _ _) [(0,0),(1,0),(2,0),(4,0),(5,0),(6,0),(3,1),(7,1)] [8,9] [8,9] 10 (by kernel_rfl) rfl rfl (by kernel_rfl) (by intro c a d v w h;cases d <;> exact h) (RC.mk (HK.out.drewN 1) (h.out.drewN 1)) (fun V hS0 => ?_));(repeat ((first | (refine Sch.pureN (v :=?_) (a' :=?_) rfl rfl (by rfl) ?_ ?_ ?_;rotate_left 2;(· (intro w';go_simp <;> with_reducible rfl))) | (refine Sch.takeN (v :=?_) (a' :=?_) rfl rfl (by rfl) hS0 ?_ ?_ ?_;rotate_left 2;(· (intro w' hS';(first | (have q :=hS'.row.cell 2 _ rfl;(try dsimp only [Rw.put,Rw.regs,Rw.fetched] at q);go_simp <;> with_reducible rfl) | (have q :=hS'.row.cell 3 _ rfl;(try dsimp only [Rw.put,Rw.regs,Rw.fetched] at q);go_simp <;> with_reducible rfl))))));(· (simp only [aput] <;> rfl))))) | ((with_reducible refine gate_region 6 ?_);(refine zad (RC g W A gl cp _ _) [(0,0),(1,0),(2,0),(4,0),(5,0),(6,0),(3,1),(7,1)] [8,9] [8,9] 10 (by kernel_rfl) rfl rfl (by kernel_rfl) (by intro c a d v w h;cases d <;> exact h) (RC.mk (HK.out.drewN 1) (h.out.drewN 1)) (fun V hS0 => ?_));(repeat ((first | (refine Sch.pureN (v :=?_) (a' :=?_) rfl rfl (by rfl) ?_ ?_ ?_;rotate_left 2;(· (intro w';go_simp <;> with_reducible rfl))) | (refine Sch.takeN (v :=?_) (a' :=?_) rfl rfl (by rfl) hS0 ?_ ?_ ?_;rotate_left 2;(· (intro w' hS';(first | (have q :=hS'.row.cell 6 _ rfl;(try dsimp only [Rw.put,Rw.regs,Rw.fetched] at q);go_simp <;> with_reducible rfl) | (have q :=hS'.row.cell 7 _ rfl;(try dsimp only [Rw.put,Rw.regs,Rw.fetched] at q);go_simp <;> with_reducible rfl))))));(· (simp only [aput] <;> rfl))))));(refine Sch.tail 8 2 rfl rfl ?_;simp only [List.drop_succ_cons,List.drop_zero,List.drop_nil]);clear h HK;have h :=Aside0.mk hS0.row;have HK :=Aside0.mk hS0.kp;clear hS0));(try clear c0 c2 c3 c6 c7);skip;have c0 :=h.out.cell 0 _ rfl;have c2 :=h.out.cell 2 _ rfl;have c3 :=h.out.cell 3 _ rfl;have c6 :=h.out.cell 6 _ rfl;have c7 :=h.out.cell 7 _ rfl;(try dsimp only [Rw.put,Rw.regs,Rw.fetched] at c0 c2 c3 c6 c7))))
 all_goals ((go_end0;exact Post.done (enc :=fun _ : Unit => Value.tuple #[]) hs.out HK.out h.out))
theorem more_5 {W : World} {g : Nat} {A : Option Addr} {gl : List Int} {cp n : Nat} {ρ : Rw} (h : RowAt W g A gl cp n ρ) (op y p q : Int) (hP : zbb op = (1,y,5,p,q)) :
  Calls Tryz.prog 73 #[.pointer (some ⟨g,0,none⟩),.int .i64 op] W (Post W g A gl cp (fun _ : Unit => .tuple #[]) (Tr.run gl (ρ.more1 y 5 p q) n)) :=by
 obtain ⟨o,ho⟩ : ∃ o,o = Tr.run gl (ρ.more1 y 5 p q) n :=⟨_,rfl⟩
 rw [← ho]
 have hs :=ho
 clear ho
 unfold Rw.more1 at hs
 rw [if_neg (by decide)] at hs;rw [if_neg (by decide)] at hs;rw [if_neg (by decide)] at hs;rw [if_neg (by decide)] at hs;rw [if_neg (by decide)] at hs;rw [if_pos rfl] at hs
 replace hs :=Aside0.mk hs
 have HK :=Aside0.mk (Kp.refl g W)
 replace h :=Aside0.mk h
 skip;have c2 :=h.out.cell 2 _ rfl;have c3 :=h.out.cell 3 _ rfl;have c6 :=h.out.cell 6 _ rfl;have c7 :=h.out.cell 7 _ rfl;have c20 :=h.out.cell 20 _ rfl;(try dsimp only [Rw.put,Rw.regs,Rw.fetched] at c2 c3 c6 c7 c20)
 go_enter Tryz.func73,Tryz.ntmps73
 go_wp2_with ((((first | ((first | (go_at_call 112;  refine Post.cpsA (rets h.out) ?_ ?_;(· exact (fun k a v t V ho hk => ⟨rfl,Post.asks (hs.out.trans (Tr.run_ask ho)) (HK.out.trans hk)⟩));intro v ρ1 n1 V ho hk hR;replace hs :=Aside0.mk (hs.out.trans (Tr.run_ok ho));clear ho) | ((((with_reducible refine gate_store 4 ?_);refine zbl h.out rfl _ _ rfl _ _ rfl rfl rfl (by decide) ?_));intro V hk hR));(try dsimp only [Rw.put,Rw.regs,Rw.fetched] at hR);replace h :=Aside0.mk hR;replace HK :=Aside0.mk (HK.out.trans hk);clear hR hk) | ((first | (go_at_call 61;refine (zbt hP _).mono ?_) | (go_at_call 82;refine (zat _ _ _).mono ?_));rintro e V ⟨rfl,hb⟩;replace h :=Aside0.mk (h.out.under hb);replace HK :=Aside0.mk (HK.out.andBelow hb);clear hb) | ((first | ((with_reducible refine gate_region 5 ?_);(refine zad (RC g W A gl cp _ _) [(0,0),(1,0),(2,0),(4,0),(5,0),(6,0),(3,1),(7,1)] [8,9] [8,9] 10 (by kernel_rfl) rfl rfl (by kernel_rfl) (by intro c a d v w h;cases d <;> exact h) (RC.mk (HK.out.drewN 1) (h.out.drewN 1)) (fun V hS0 => ?_));(repeat ((first | (refine Sch.pureN (v :=?_) (a' :=?_) rfl rfl (by rfl) ?_ ?_ ?_;rotate_left 2;(· (intro w';go_simp <;> with_reducible rfl))) | (refine Sch.takeN (v :=?_) (a' :=?_) rfl rfl (by rfl) hS0 ?_ ?_ ?_;rotate_left 2;(· (intro w' hS';(first | (have q :=hS'.row.cell 2 _ rfl;(try dsimp only [Rw.put,Rw.regs,Rw.fetched] at q);go_simp <;> with_reducible rfl) | (have q :=hS'.row.cell 3 _ rfl;(try dsimp only [Rw.put,Rw.regs,Rw.fetched] at q);go_simp <;> with_reducible rfl))))));(· (simp only [aput] <;> rfl))))) | ((with_reducible refine gate_region 6 ?_);(refine zad (RC g W A gl cp _ _) [(0,0),(1,0),(2,0),(4,0),(5,0),(6,0),(3,1),(7,1)] [8,9] [8,9] 10 (by kernel_rfl) rfl rfl (by kernel_rfl) (by intro c a d v w h;cases d <;> exact h) (RC.mk (HK.out.drewN 1) (h.out.drewN 1)) (fun V hS0 => ?_));(repeat ((first | (refine Sch.pureN (v :=?_) (a' :=?_) rfl rfl (by rfl) ?_ ?_ ?_;rotate_left 2;(· (intro w';go_simp <;> with_reducible rfl))) | (refine Sch.takeN (v :=?_) (a' :=?_) rfl rfl (by rfl) hS0 ?_ ?_ ?_;rotate_left 2;(· (intro w' hS';(first | (have q :=hS'.row.cell 6 _ rfl;(try dsimp only [Rw.put,Rw.regs,Rw.fetched] at q);go_simp <;> with_reducible rfl) | (have q :=hS'.row.cell 7 _ rfl;(try dsimp only [Rw.put,Rw.regs,Rw.fetched] at q);go_simp <;> with_reducible rfl))))));(· (simp only [aput] <;> rfl))))));(refine Sch.tail 8 2 rfl rfl ?_;simp only [List.drop_succ_cons,List.drop_zero,List.drop_nil]);clear h HK;have h :=Aside0.mk hS0.row;have HK :=Aside0.mk hS0.kp;clear hS0));(try clear c2 c3 c6 c7 c20);skip;have c2 :=h.out.cell 2 _ rfl;have c3 :=h.out.cell 3 _ rfl;have c6 :=h.out.cell 6 _ rfl;have c7 :=h.out.cell 7 _ rfl;have c20 :=h.out.cell 20 _ rfl;(try dsimp only [Rw.put,Rw.regs,Rw.fetched] at c2 c3 c6 c7 c20))))
 all_goals ((go_end0;exact Post.done (enc :=fun _ : Unit => Value.tuple #[]) hs.out HK.out h.out))
theorem jo2 : (∀ {W : World} {g : Nat} {A : Option Addr} {gl : List Int} {cp n : Nat} {ρ : Rw} (h : RowAt W g A gl cp n ρ) (op y p q : Int) (hP : zbb op = (1,y,6,p,q)) (hm : Go.bits .and .i64 y 3 = 0), Calls Tryz.prog 73 #[.pointer (some ⟨g,0,none⟩),.int .i64 op] W (Post W g A gl cp (fun _ : Unit => .tuple #[]) (Tr.run gl (.ret () { ρ with im :=0 }) n))) ∧ (∀ {W : World} {g : Nat} {A : Option Addr} {gl : List Int} {cp n : Nat} {ρ : Rw} (h : RowAt W g A gl cp n ρ) (op y p q : Int) (hP : zbb op = (1,y,6,p,q)) (hm : Go.bits .and .i64 y 3 = 1), Calls Tryz.prog 73 #[.pointer (some ⟨g,0,none⟩),.int .i64 op] W (Post W g A gl cp (fun _ : Unit => .tuple #[]) (Tr.run gl (.ret () { ρ with im :=0 }) n))) ∧ (∀ {W : World} {g : Nat} {A : Option Addr} {gl : List Int} {cp n : Nat} {ρ : Rw} (h : RowAt W g A gl cp n ρ) (op y p q : Int) (hP : zbb op = (1,y,6,p,q)) (hm : Go.bits .and .i64 y 3 = 2), Calls Tryz.prog 73 #[.pointer (some ⟨g,0,none⟩),.int .i64 op] W (Post W g A gl cp (fun _ : Unit => .tuple #[]) (Tr.run gl (.ret () { ρ with im :=1 }) n))) ∧ (∀ {W : World} {g : Nat} {A : Option Addr} {gl : List Int} {cp n : Nat} {ρ : Rw} (h : RowAt W g A gl cp n ρ) (op y p q : Int) (hP : zbb op = (1,y,6,p,q)) (hm : Go.bits .and .i64 y 3 = 3), Calls Tryz.prog 73 #[.pointer (some ⟨g,0,none⟩),.int .i64 op] W (Post W g A gl cp (fun _ : Unit => .tuple #[]) (Tr.run gl (.ret () { ρ with im :=2 }) n))) :=by
 refine ⟨?_,?_,?_,?_⟩
 all_goals
  intro W g A gl cp n ρ h op y p q hP hm
  first | (obtain ⟨o,ho⟩ : ∃ o,o = Tr.run gl (.ret () { ρ with im :=0 }) n :=⟨_,rfl⟩;rw [← ho]) | (obtain ⟨o,ho⟩ : ∃ o,o = Tr.run gl (.ret () { ρ with im :=1 }) n :=⟨_,rfl⟩;rw [← ho]) | (obtain ⟨o,ho⟩ : ∃ o,o = Tr.run gl (.ret () { ρ with im :=2 }) n :=⟨_,rfl⟩;rw [← ho])
  have hs :=ho
  clear ho
  have hix : ∀ w : World,(Instr.index 134 (.agg #[.int .i64 0,.int .i64 0,.int .i64 1,.int .i64 2]) (.int .i64 0)).run Tryz.prog w = .ok (.int .i64 0) w :=fun _ => rfl
  have hix : ∀ w : World,(Instr.index 134 (.agg #[.int .i64 0,.int .i64 0,.int .i64 1,.int .i64 2]) (.int .i64 1)).run Tryz.prog w = .ok (.int .i64 0) w :=fun _ => rfl
  have hix : ∀ w : World,(Instr.index 134 (.agg #[.int .i64 0,.int .i64 0,.int .i64 1,.int .i64 2]) (.int .i64 2)).run Tryz.prog w = .ok (.int .i64 1) w :=fun _ => rfl
  have hix : ∀ w : World,(Instr.index 134 (.agg #[.int .i64 0,.int .i64 0,.int .i64 1,.int .i64 2]) (.int .i64 3)).run Tryz.prog w = .ok (.int .i64 2) w :=fun _ => rfl
  replace hs :=Aside0.mk hs
  have HK :=Aside0.mk (Kp.refl g W)
  replace h :=Aside0.mk h
  skip;have c2 :=h.out.cell 2 _ rfl;have c3 :=h.out.cell 3 _ rfl;have c6 :=h.out.cell 6 _ rfl;have c7 :=h.out.cell 7 _ rfl;(try dsimp only [Rw.put,Rw.regs,Rw.fetched] at c2 c3 c6 c7)
  go_enter Tryz.func73,Tryz.ntmps73
  go_wp2_with ((((first | ((first | (go_at_call 61;refine (zbt hP _).mono ?_) | (go_at_call 82;refine (zat _ _ _).mono ?_));rintro e V ⟨rfl,hb⟩;replace h :=Aside0.mk (h.out.under hb);replace HK :=Aside0.mk (HK.out.andBelow hb);clear hb) | ((((with_reducible refine gate_store 3 ?_);refine wpList_store_int h.out rfl _ _ rfl _ _ rfl rfl rfl (by decide) ?_));intro V hk hR;(try dsimp only [Rw.put,Rw.regs,Rw.fetched] at hR);replace h :=Aside0.mk hR;replace HK :=Aside0.mk (HK.out.trans hk);clear hR hk) | ((first | ((with_reducible refine gate_region 5 ?_);(refine zad (RC g W A gl cp _ _) [(0,0),(1,0),(2,0),(4,0),(5,0),(6,0),(3,1),(7,1)] [8,9] [8,9] 10 (by kernel_rfl) rfl rfl (by kernel_rfl) (by intro c a d v w h;cases d <;> exact h) (RC.mk (HK.out.drewN 1) (h.out.drewN 1)) (fun V hS0 => ?_));(repeat ((first | (refine Sch.pureN (v :=?_) (a' :=?_) rfl rfl (by rfl) ?_ ?_ ?_;rotate_left 2;(· (intro w';go_simp <;> with_reducible rfl))) | (refine Sch.takeN (v :=?_) (a' :=?_) rfl rfl (by rfl) hS0 ?_ ?_ ?_;rotate_left 2;(· (intro w' hS';(first | (have q :=hS'.row.cell 2 _ rfl;(try dsimp only [Rw.put,Rw.regs,Rw.fetched] at q);go_simp <;> with_reducible rfl) | (have q :=hS'.row.cell 3 _ rfl;(try dsimp only [Rw.put,Rw.regs,Rw.fetched] at q);go_simp <;> with_reducible rfl))))));(· (simp only [aput] <;> rfl))))) | ((with_reducible refine gate_region 6 ?_);(refine zad (RC g W A gl cp _ _) [(0,0),(1,0),(2,0),(4,0),(5,0),(6,0),(3,1),(7,1)] [8,9] [8,9] 10 (by kernel_rfl) rfl rfl (by kernel_rfl) (by intro c a d v w h;cases d <;> exact h) (RC.mk (HK.out.drewN 1) (h.out.drewN 1)) (fun V hS0 => ?_));(repeat ((first | (refine Sch.pureN (v :=?_) (a' :=?_) rfl rfl (by rfl) ?_ ?_ ?_;rotate_left 2;(· (intro w';go_simp <;> with_reducible rfl))) | (refine Sch.takeN (v :=?_) (a' :=?_) rfl rfl (by rfl) hS0 ?_ ?_ ?_;rotate_left 2;(· (intro w' hS';(first | (have q :=hS'.row.cell 6 _ rfl;(try dsimp only [Rw.put,Rw.regs,Rw.fetched] at q);go_simp <;> with_reducible rfl) | (have q :=hS'.row.cell 7 _ rfl;(try dsimp only [Rw.put,Rw.regs,Rw.fetched] at q);go_simp <;> with_reducible rfl))))));(· (simp only [aput] <;> rfl))))));(refine Sch.tail 8 2 rfl rfl ?_;simp only [List.drop_succ_cons,List.drop_zero,List.drop_nil]);clear h HK;have h :=Aside0.mk hS0.row;have HK :=Aside0.mk hS0.kp;clear hS0));(try clear c2 c3 c6 c7);skip;have c2 :=h.out.cell 2 _ rfl;have c3 :=h.out.cell 3 _ rfl;have c6 :=h.out.cell 6 _ rfl;have c7 :=h.out.cell 7 _ rfl;(try dsimp only [Rw.put,Rw.regs,Rw.fetched] at c2 c3 c6 c7))))
  all_goals ((go_end0;exact Post.done (enc :=fun _ : Unit => Value.tuple #[]) hs.out HK.out h.out))
theorem more_7 {W : World} {g : Nat} {A : Option Addr} {gl : List Int} {cp n : Nat} {ρ : Rw} (h : RowAt W g A gl cp n ρ) (op y z p q : Int) (hP : zbb op = (1,y,z,p,q)) (h0 : z ≠ 0) (h1 : z ≠ 1) (h2 : z ≠ 2) (h3 : z ≠ 3) (h4 : z ≠ 4) (h5 : z ≠ 5) (h6 : z ≠ 6) :
  Calls Tryz.prog 73 #[.pointer (some ⟨g,0,none⟩),.int .i64 op] W (Post W g A gl cp (fun _ : Unit => .tuple #[]) (Tr.run gl ((ρ.accumulator y ρ.hl0).bind fun _ ρ => .ret () ρ) n)) :=by
 obtain ⟨o,ho⟩ : ∃ o,o = Tr.run gl ((ρ.accumulator y ρ.hl0).bind fun _ ρ => .ret () ρ) n :=⟨_,rfl⟩
 rw [← ho]
 have hs :=ho
 clear ho
 unfold Rw.hl0 at hs
 replace hs :=Aside0.mk hs
 have HK :=Aside0.mk (Kp.refl g W)
 replace h :=Aside0.mk h
 skip;have c2 :=h.out.cell 2 _ rfl;have c3 :=h.out.cell 3 _ rfl;have c6 :=h.out.cell 6 _ rfl;have c7 :=h.out.cell 7 _ rfl;(try dsimp only [Rw.put,Rw.regs,Rw.fetched] at c2 c3 c6 c7)
 go_enter Tryz.func73,Tryz.ntmps73
 go_wp2_with ((first | (go_at_call 113;  refine Post.cpsA (accumulator h.out _ _) ?_ ?_;(· exact (fun k a v t V ho hk => ⟨rfl,Post.asks (hs.out.trans (Tr.run_ask ho)) (HK.out.trans hk)⟩));intro v ρ1 n1 V ho hk hR;replace hs :=Aside0.mk (hs.out.trans (Tr.run_ok ho));clear ho;(try dsimp only [Rw.put,Rw.regs,Rw.fetched] at hR);replace h :=Aside0.mk hR;replace HK :=Aside0.mk (HK.out.trans hk);clear hR hk) | ((first | (go_at_call 61;refine (zbt hP _).mono ?_) | (go_at_call 82;refine (zat _ _ _).mono ?_));rintro e V ⟨rfl,hb⟩;replace h :=Aside0.mk (h.out.under hb);replace HK :=Aside0.mk (HK.out.andBelow hb);clear hb) | ((first | ((with_reducible refine gate_region 5 ?_);(refine zad (RC g W A gl cp _ _) [(0,0),(1,0),(2,0),(4,0),(5,0),(6,0),(3,1),(7,1)] [8,9] [8,9] 10 (by kernel_rfl) rfl rfl (by kernel_rfl) (by intro c a d v w h;cases d <;> exact h) (RC.mk (HK.out.drewN 1) (h.out.drewN 1)) (fun V hS0 => ?_));(repeat ((first | (refine Sch.pureN (v :=?_) (a' :=?_) rfl rfl (by rfl) ?_ ?_ ?_;rotate_left 2;(· (intro w';go_simp <;> with_reducible rfl))) | (refine Sch.takeN (v :=?_) (a' :=?_) rfl rfl (by rfl) hS0 ?_ ?_ ?_;rotate_left 2;(· (intro w' hS';(first | (have q :=hS'.row.cell 2 _ rfl;(try dsimp only [Rw.put,Rw.regs,Rw.fetched] at q);go_simp <;> with_reducible rfl) | (have q :=hS'.row.cell 3 _ rfl;(try dsimp only [Rw.put,Rw.regs,Rw.fetched] at q);go_simp <;> with_reducible rfl))))));(· (simp only [aput] <;> rfl))))) | ((with_reducible refine gate_region 6 ?_);(refine zad (RC g W A gl cp _ _) [(0,0),(1,0),(2,0),(4,0),(5,0),(6,0),(3,1),(7,1)] [8,9] [8,9] 10 (by kernel_rfl) rfl rfl (by kernel_rfl) (by intro c a d v w h;cases d <;> exact h) (RC.mk (HK.out.drewN 1) (h.out.drewN 1)) (fun V hS0 => ?_));(repeat ((first | (refine Sch.pureN (v :=?_) (a' :=?_) rfl rfl (by rfl) ?_ ?_ ?_;rotate_left 2;(· (intro w';go_simp <;> with_reducible rfl))) | (refine Sch.takeN (v :=?_) (a' :=?_) rfl rfl (by rfl) hS0 ?_ ?_ ?_;rotate_left 2;(· (intro w' hS';(first | (have q :=hS'.row.cell 6 _ rfl;(try dsimp only [Rw.put,Rw.regs,Rw.fetched] at q);go_simp <;> with_reducible rfl) | (have q :=hS'.row.cell 7 _ rfl;(try dsimp only [Rw.put,Rw.regs,Rw.fetched] at q);go_simp <;> with_reducible rfl))))));(· (simp only [aput] <;> rfl))))));(refine Sch.tail 8 2 rfl rfl ?_;simp only [List.drop_succ_cons,List.drop_zero,List.drop_nil]);clear h HK;have h :=Aside0.mk hS0.row;have HK :=Aside0.mk hS0.kp;clear hS0));(try clear c2 c3 c6 c7);skip;have c2 :=h.out.cell 2 _ rfl;have c3 :=h.out.cell 3 _ rfl;have c6 :=h.out.cell 6 _ rfl;have c7 :=h.out.cell 7 _ rfl;(try dsimp only [Rw.put,Rw.regs,Rw.fetched] at c2 c3 c6 c7))
 all_goals ((go_end0;exact Post.done (enc :=fun _ : Unit => Value.tuple #[]) hs.out HK.out h.out))
theorem setMore {W : World} {g : Nat} {A : Option Addr} {gl : List Int} {cp n : Nat} {ρ : Rw} (h : RowAt W g A gl cp n ρ) (op : Int) :
  Calls Tryz.prog 73 #[.pointer (some ⟨g,0,none⟩),.int .i64 op] W (Post W g A gl cp (fun _ : Unit => .tuple #[]) (Tr.run gl (ρ.setMore op) n)) :=by
 unfold Rw.setMore px py pz pp pq
 obtain ⟨x,y,z,p,q,hP⟩ : ∃ x y z p q,zbb op = (x,y,z,p,q) :=⟨_,_,_,_,_,rfl⟩
 simp only [hP]
 by_cases hx : x = 2
 ·subst hx
  by_cases hy : 4 ≤ y
  ·by_cases hz : z ≤ 3
   ·rw [if_pos ⟨rfl,hy,hz⟩];exact more_block h op y z p q hP (decide_eq_true hy) (decide_eq_true hz)
   ·rw [if_neg (fun k => hz k.2.2),if_neg (by decide)];exact more_no2 h op y z p q hP (decide_eq_true hy) (decide_eq_false hz)
  ·rw [if_neg (fun k => hy k.2.1),if_neg (by decide)];exact more_no1 h op y z p q hP (decide_eq_false hy)
 rw [if_neg (fun k => hx k.1)]
 by_cases hx1 : ¬ x = 1
 ·rw [if_neg hx1];exact more_no3 h op x y z p q hP (by simpa using hx) (by simpa using hx1)
 have hx1 : x = 1 :=Classical.not_not.1 hx1
 subst hx1
 rw [if_pos rfl]
 by_cases h0 : z = 0
 ·subst h0;exact more_0 h op y p q hP
 by_cases h1 : z = 1
 ·subst h1;exact more_1 h op y p q hP
 by_cases h2 : z = 2
 ·subst h2;exact more_2 h op y p q hP
 by_cases h3 : z = 3
 ·subst h3;exact more_3 h op y p q hP
 by_cases h4 : z = 4
 ·subst h4;exact more_4 h op y p q hP
 by_cases h5 : z = 5
 ·subst h5;exact more_5 h op y p q hP
 by_cases h6 : z = 6
 ·subst h6
  unfold Rw.more1 imOf
  rw [if_neg h0,if_neg h1,if_neg h2,if_neg h3,if_neg h4,if_neg h5,if_pos rfl]
  have hm :=B.i64_3 y
  by_cases m2 : y % 4 = 2
  ·rw [if_pos m2];exact jo2.2.2.1 h op y p q hP (hm.trans m2)
  by_cases m3 : y % 4 = 3
  ·rw [if_neg m2,if_pos m3];exact jo2.2.2.2 h op y p q hP (hm.trans m3)
  rw [if_neg m2,if_neg m3]
  by_cases m0 : y % 4 = 0
  ·exact jo2.1 h op y p q hP (hm.trans m0)
  ·exact jo2.2.1 h op y p q hP (hm.trans (by omega))
 unfold Rw.more1
 rw [if_neg h0,if_neg h1,if_neg h2,if_neg h3,if_neg h4,if_neg h5,if_neg h6]
 exact more_7 h op y z p q hP h0 h1 h2 h3 h4 h5 h6
end Go.Proofs.YtnelghpendfdmaaGreatDoor.KRow
