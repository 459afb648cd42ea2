/-
 PROVED: the contract of the row's method main.
-/
import Derived.Test.YtnelghpendfdmaaGreatDoorKMd
import Derived.Test.YtnelghpendfdmaaGreatDoorKMe
namespace Go.Proofs.YtnelghpendfdmaaGreatDoor.KRow
open Go Go.RowKit Go.Proofs.YtnelghpendfdmaaGreatDoorW.PrintWords Go.Proofs.YtnelghpendfdmaaGreatDoorW.PrintLast Go.Proofs.YtnelghpendfdmaaGreatDoorW.PrintMore
open Go.Proofs.YtnelghpendfdmaaGreatDoor.HFun
set_option linter.unusedVariables false
set_option linter.unusedSimpArgs false
theorem there_f (s x op : Int) : ∃ r,ycm.f 24 s x op = some r :=by
 have h1 : ∀ k a b c,∃ r,ycm.j1 (k + 1) a b c = some r :=by
  intro k a b c
  simp only [ycm.j1]
  repeat' (first | exact ⟨_,rfl⟩ | split)
 have hl : ∀ a,∃ r,ydf.f a = some r :=by
  intro a
  unfold ydf.f
  repeat' (first | exact ⟨_,rfl⟩ | split)
 have h0 : ∀ k a b c d,∃ r,ycm.j0 (k + 2) a b c d = some r :=by
  intro k a b c d
  obtain ⟨l,hl⟩ :=hl c
  simp only [ycm.j0,hl,Option.bind_some]
  repeat' (first | exact h1 _ _ _ _ | exact ⟨_,rfl⟩ | split)
 unfold ycm.f
 split <;> exact h0 _ _ _ _ _
theorem reaches_f (op : Int) : ∃ r,ycl.f 24 op = some r :=by
 have h1 : ∀ k a b,∃ r,ycl.j1 (k + 1) a b = some r :=by
  intro k a b
  simp only [ycl.j1]
  repeat' (first | exact ⟨_,rfl⟩ | split)
 have h0 : ∀ k a b c d,∃ r,ycl.j0 (k + 2) a b c d = some r :=by
  intro k a b c d
  simp only [ycl.j0]
  repeat' (first | exact h1 _ _ _ | exact ⟨_,rfl⟩ | split)
 unfold ycl.f
 obtain ⟨p,hp⟩ :=decode_Parts_f op
 simp only [hp,Option.bind_some]
 repeat' (first | exact h0 _ _ _ _ _ | exact ⟨_,rfl⟩ | split)
theorem immMain_f (op : Int) : ∃ r,ycf.f 24 op = some r :=by
 have h2 : ∀ k a b c,∃ r,ycf.j2 (k + 1) a b c = some r :=by
  intro k a b c
  simp only [ycf.j2]
  repeat' (first | exact ⟨_,rfl⟩ | split)
 have h1 : ∀ k a b c d,∃ r,ycf.j1 (k + 2) a b c d = some r :=by
  intro k a b c d
  simp only [ycf.j1]
  repeat' (first | exact h2 _ _ _ _ | exact ⟨_,rfl⟩ | split)
 have h0 : ∀ k a b c d e,∃ r,ycf.j0 (k + 3) a b c d e = some r :=by
  intro k a b c d e
  simp only [ycf.j0]
  repeat' (first | exact h1 _ _ _ _ _ | exact ⟨_,rfl⟩ | split)
 unfold ycf.f
 obtain ⟨p,hp⟩ :=decode_Parts_f op
 simp only [hp,Option.bind_some]
 repeat' (first | exact h0 _ _ _ _ _ _ | split)
theorem decode_Needs_f (s x op : Int) : ∃ r,ycw.f 24 s x op = some r :=by
 unfold ycw.f
 obtain ⟨t,ht⟩ :=there_f s x op
 obtain ⟨r,hr⟩ :=reaches_f op
 obtain ⟨i,hi⟩ :=immMain_f op
 simp only [ht,hr,hi,Option.bind_some]
 repeat' (first | exact ⟨_,rfl⟩ | split)
theorem c_decode_Needs (s x op : Int) (w : World) : Calls Tryz.prog 57 #[.int .i64 s,.int .i64 x,.int .i64 op] w fun e w' => e = .returned (.tuple #[.bool (vNeeds1 s x op),.int .i64 (vNeeds2 s x op)]) ∧ Below w.heap.size w w' :=
 (ycw.calls 24 s x op (vNeeds s x op).1 (vNeeds s x op).2 w (zbz (d :=(false,0)) (decode_Needs_f s x op))).mono fun e w' h => ⟨h.1,zan h.2⟩
set_option maxHeartbeats 16000000 in
set_option maxRecDepth 100000 in
theorem main {W : World} {g : Nat} {A : Option Addr} {gl : List Int} {cp n : Nat} {ρ : Rw} (h : RowAt W g A gl cp n ρ) (op : Int) :
  Calls Tryz.prog 71 #[.pointer (some ⟨g,0,none⟩),.int .i64 op] W (Post W g A gl cp (fun _ : Unit => .tuple #[]) (Tr.run gl (ρ.main op) n)) :=by
 obtain ⟨o,ho⟩ : ∃ o,o = Tr.run gl (ρ.main op) n :=⟨_,rfl⟩
 rw [← ho]
 have hs :=ho
 clear ho
 unfold Rw.main px py pz pp pq at hs
 replace hs :=Aside0.mk hs
 have HK :=Aside0.mk (Kp.refl g W)
 replace h :=Aside0.mk h
 skip;have c0 :=h.out.cell 0 _ rfl;have c1 :=h.out.cell 1 _ rfl;have c27 :=h.out.cell 27 _ rfl;(try dsimp only [Rw.put,Rw.regs,Rw.fetched] at c0 c1 c27)
 go_enter Tryz.func71,Tryz.ntmps71
 go_wp2_with (first | ((first | ((first | ((first | go_at_call 91 | go_at_call 92 | go_at_call 89 | go_at_call 95 | go_at_call 94 | go_at_call 97);(try (repeat (split at hs <;> first | (exfalso;(simp_all;done)) | skip)));(first | (go_at_call 91;refine Post.cpsA (low h.out _ _ _ _ _) ?_ ?_) | (go_at_call 92;refine Post.cpsA (address h.out) ?_ ?_) | (go_at_call 89;refine Post.cpsA (write h.out _ _) ?_ ?_) | (go_at_call 95;refine Post.cpsA (get h.out _) ?_ ?_) | (go_at_call 94;refine Post.cpsA (put h.out _ _) ?_ ?_) | (go_at_call 97;refine Post.cpsA (high h.out _ _ _ _ _) ?_ ?_));(· exact (fun k a v t V ho hk => ⟨rfl,Post.asks (hs.out.trans (Tr.run_ask ho)) (HK.out.trans hk)⟩));intro v ρ1 n1 V ho hk hR;replace hs :=Aside0.mk (hs.out.trans (Tr.run_ok ho));(first | (have hi :=zbh ho;subst hi) | (have hi :=put8_inv ho;subst hi) | skip);clear ho) | ((first | ((with_reducible refine gate_store 5 ?_);refine zas h.out rfl _ _ rfl _ _ rfl rfl rfl (by decide) ?_) | ((with_reducible refine gate_store 4 ?_);refine zbl h.out rfl _ _ rfl _ _ rfl rfl rfl (by decide) ?_));intro V hk hR));(try dsimp only [Rw.put,Rw.regs,Rw.fetched] at hR);replace h :=Aside0.mk hR;replace HK :=Aside0.mk (HK.out.trans hk);clear hR hk) | ((first | (go_at_call 57;refine (c_decode_Needs _ _ _ _).mono ?_) | (go_at_call 61;refine (c_decode_Parts _ _).mono ?_) | (go_at_call 93;refine (Get _ _ _ _).mono ?_));rintro e V ⟨rfl,hb⟩;replace h :=Aside0.mk (h.out.under hb);replace HK :=Aside0.mk (HK.out.andBelow hb);clear hb) | ((with_reducible refine gate_region 15 ?_);(refine zad (RC g W A gl cp _ _) [(0,0),(1,0),(2,0),(3,0),(4,0),(5,0),(6,0),(8,0),(9,0),(10,0),(11,0),(12,0),(7,1),(13,1),(14,2),(15,0),(16,0),(17,0)] [18,19,20,21,22,23,24,25] [18,19,20,21,22,23,24,25] 26 (by kernel_rfl) rfl rfl (by kernel_rfl) (by intro c a d v w h;cases d <;> exact h) (RC.mk (HK.out.drewN 1) (h.out.drewN 1)) (fun V hS0 => ?_));(repeat ((first | (refine Sch.pureN (v :=?_) (a' :=?_) rfl rfl (by rfl) ?_ ?_ ?_;rotate_left 2;(· (intro w';go_simp <;> with_reducible rfl))) | (refine Sch.takeN (v :=?_) (a' :=?_) rfl rfl (by rfl) hS0 ?_ ?_ ?_;rotate_left 2;(· (intro w' hS';(first | (have q :=hS'.row.cell 0 _ rfl;(try dsimp only [Rw.put,Rw.regs,Rw.fetched] at q);go_simp <;> with_reducible rfl) | (have q :=hS'.row.cell 1 _ rfl;(try dsimp only [Rw.put,Rw.regs,Rw.fetched] at q);go_simp <;> with_reducible rfl))))));(· (simp only [aput] <;> rfl))));(refine Sch.call (N :=(some 97)) rfl rfl Tryz.func96 (by kernel_rfl) rfl ?_ (by rfl) rfl ?_ ?_;rotate_left;(· (go_simp <;> with_reducible rfl));refine (c_alu_Do _ _ _ _ _ hS0.row.tab).mono ?_;rintro e V ⟨rfl,hb⟩;replace hS0 :=hS0.step hb;clear hb;refine ⟨hS0,?_⟩;refine Sch.norm (a' :=?_) ?_ ?_;rotate_left;(· (simp only [aput] <;> rfl)));(repeat ((refine Sch.pureN (v :=?_) (a' :=?_) rfl rfl (by rfl) ?_ ?_ ?_;rotate_left 2;(· (intro w';go_simp <;> with_reducible rfl)));(· (simp only [aput] <;> rfl))));(refine Sch.tail 18 8 rfl rfl ?_;simp only [List.drop_succ_cons,List.drop_zero,List.drop_nil]);clear h HK;have h :=Aside0.mk hS0.row;have HK :=Aside0.mk hS0.kp;clear hS0));(try clear c0 c1 c27);skip;have c0 :=h.out.cell 0 _ rfl;have c1 :=h.out.cell 1 _ rfl;have c27 :=h.out.cell 27 _ rfl;(try dsimp only [Rw.put,Rw.regs,Rw.fetched] at c0 c1 c27)) | ((with_reducible refine gate_load 24 ?_);refine zay h.out rfl _ rfl rfl ?_))
 all_goals (try (repeat (split at hs <;> first | (exfalso;(simp_all;done)) | skip)))
 all_goals ((go_end0;exact Post.done (enc :=fun _ : Unit => Value.tuple #[]) hs.out HK.out h.out))
end Go.Proofs.YtnelghpendfdmaaGreatDoor.KRow
