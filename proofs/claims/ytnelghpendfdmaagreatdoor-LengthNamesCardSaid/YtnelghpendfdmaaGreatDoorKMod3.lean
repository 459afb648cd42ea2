/-
 PROVED: the contract of the row's method main.
-/
import Derived.Test.YtnelghpendfdmaaGreatDoorKMd
import Derived.Test.YtnelghpendfdmaaGreatDoorKMe
namespace Go.Proofs.YtnelghpendfdmaaGreatDoor.KRow
open Go Go.RowKit Go.Proofs.YtnelghpendfdmaaGreatDoorW.PrintWords Go.Proofs.YtnelghpendfdmaaGreatDoorW.PrintLast Go.Proofs.YtnelghpendfdmaaGreatDoorW.PrintMore
open Go.Proofs.YtnelghpendfdmaaGreatDoor.HFun
set_option linter.unusedVariables false
set_option linter.unusedSimpArgs false
theorem there_f (s x op : Int) : ∃ r,decode_there.f 24 s x op = some r :=by
 have h1 : ∀ k a b c,∃ r,decode_there.j1 (k + 1) a b c = some r :=by
  intro k a b c
  simp only [decode_there.j1]
  repeat' (first | exact ⟨_,rfl⟩ | split)
 have hl : ∀ a,∃ r,decode_lone.f a = some r :=by
  intro a
  unfold decode_lone.f
  repeat' (first | exact ⟨_,rfl⟩ | split)
 have h0 : ∀ k a b c d,∃ r,decode_there.j0 (k + 2) a b c d = some r :=by
  intro k a b c d
  obtain ⟨l,hl⟩ :=hl c
  simp only [decode_there.j0,hl,Option.bind_some]
  repeat' (first | exact h1 _ _ _ _ | exact ⟨_,rfl⟩ | split)
 unfold decode_there.f
 split <;> exact h0 _ _ _ _ _
theorem reaches_f (op : Int) : ∃ r,decode_reaches.f 24 op = some r :=by
 have h1 : ∀ k a b,∃ r,decode_reaches.j1 (k + 1) a b = some r :=by
  intro k a b
  simp only [decode_reaches.j1]
  repeat' (first | exact ⟨_,rfl⟩ | split)
 have h0 : ∀ k a b c d,∃ r,decode_reaches.j0 (k + 2) a b c d = some r :=by
  intro k a b c d
  simp only [decode_reaches.j0]
  repeat' (first | exact h1 _ _ _ | exact ⟨_,rfl⟩ | split)
 unfold decode_reaches.f
 obtain ⟨p,hp⟩ :=decode_Parts_f op
 simp only [hp,Option.bind_some]
 repeat' (first | exact h0 _ _ _ _ _ | exact ⟨_,rfl⟩ | split)
theorem immMain_f (op : Int) : ∃ r,decode_immMain.f 24 op = some r :=by
 have h2 : ∀ k a b c,∃ r,decode_immMain.j2 (k + 1) a b c = some r :=by
  intro k a b c
  simp only [decode_immMain.j2]
  repeat' (first | exact ⟨_,rfl⟩ | split)
 have h1 : ∀ k a b c d,∃ r,decode_immMain.j1 (k + 2) a b c d = some r :=by
  intro k a b c d
  simp only [decode_immMain.j1]
  repeat' (first | exact h2 _ _ _ _ | exact ⟨_,rfl⟩ | split)
 have h0 : ∀ k a b c d e,∃ r,decode_immMain.j0 (k + 3) a b c d e = some r :=by
  intro k a b c d e
  simp only [decode_immMain.j0]
  repeat' (first | exact h1 _ _ _ _ _ | exact ⟨_,rfl⟩ | split)
 unfold decode_immMain.f
 obtain ⟨p,hp⟩ :=decode_Parts_f op
 simp only [hp,Option.bind_some]
 repeat' (first | exact h0 _ _ _ _ _ _ | split)
theorem decode_Needs_f (s x op : Int) : ∃ r,decode_Needs.f 24 s x op = some r :=by
 unfold decode_Needs.f
 obtain ⟨t,ht⟩ :=there_f s x op
 obtain ⟨r,hr⟩ :=reaches_f op
 obtain ⟨i,hi⟩ :=immMain_f op
 simp only [ht,hr,hi,Option.bind_some]
 repeat' (first | exact ⟨_,rfl⟩ | split)
theorem c_decode_Needs (s x op : Int) (w : World) : Calls Tryz.prog 57 #[.int .i64 s,.int .i64 x,.int .i64 op] w fun e w' => e = .returned (.tuple #[.bool (vNeeds1 s x op),.int .i64 (vNeeds2 s x op)]) ∧ Below w.heap.size w w' :=
 (decode_Needs.calls 24 s x op (vNeeds s x op).1 (vNeeds s x op).2 w (of_ex (d :=(false,0)) (decode_Needs_f s x op))).mono fun e w' h => ⟨h.1,drawn_below h.2⟩
set_option maxHeartbeats 16000000 in
set_option maxRecDepth 100000 in
theorem main {W : World} {g : Nat} {A : Option Addr} {gl : List Int} {cp n : Nat} {ρ : Rw} (h : RowAt W g A gl cp n ρ) (op : Int) :
  Calls Tryz.prog 71 #[.pointer (some ⟨g,0,none⟩),.int .i64 op] W (Post W g A gl cp (fun _ : Unit => .tuple #[]) (Tr.run gl (ρ.main op) n)) :=by
 obtain ⟨o,ho⟩ : ∃ o,o = Tr.run gl (ρ.main op) n :=⟨_,rfl⟩
 rw [← ho]
 have hs :=ho
 clear ho
 unfold Rw.main px py pz pp pq at hs
 replace hs :=Aside0.mk hs
 have HK :=Aside0.mk (Kp.refl g W)
 replace h :=Aside0.mk h
 skip;have c0 :=h.out.cell 0 _ rfl;have c1 :=h.out.cell 1 _ rfl;have c27 :=h.out.cell 27 _ rfl;(try dsimp only [Rw.put,Rw.regs,Rw.fetched] at c0 c1 c27)
 go_enter Tryz.func71,Tryz.ntmps71
 go_wp2_with (first | ((first | ((first | ((first | go_at_call 91 | go_at_call 92 | go_at_call 89 | go_at_call 95 | go_at_call 94 | go_at_call 97);(try (repeat (split at hs <;> first | (exfalso;(simp_all;done)) | skip)));(first | (go_at_call 91;refine Post.cpsA (low h.out _ _ _ _ _) ?_ ?_) | (go_at_call 92;refine Post.cpsA (address h.out) ?_ ?_) | (go_at_call 89;refine Post.cpsA (write h.out _ _) ?_ ?_) | (go_at_call 95;refine Post.cpsA (get h.out _) ?_ ?_) | (go_at_call 94;refine Post.cpsA (put h.out _ _) ?_ ?_) | (go_at_call 97;refine Post.cpsA (high h.out _ _ _ _ _) ?_ ?_));(· exact (fun k a v t V ho hk => ⟨rfl,Post.asks (hs.out.trans (Tr.run_ask ho)) (HK.out.trans hk)⟩));intro v ρ1 n1 V ho hk hR;replace hs :=Aside0.mk (hs.out.trans (Tr.run_ok ho));(first | (have hi :=write_inv ho;subst hi) | (have hi :=put8_inv ho;subst hi) | skip);clear ho) | ((first | ((with_reducible refine gate_store 5 ?_);refine wpList_store_u8 h.out rfl _ _ rfl _ _ rfl rfl rfl (by decide) ?_) | ((with_reducible refine gate_store 4 ?_);refine wpList_store_bool h.out rfl _ _ rfl _ _ rfl rfl rfl (by decide) ?_));intro V hk hR));(try dsimp only [Rw.put,Rw.regs,Rw.fetched] at hR);replace h :=Aside0.mk hR;replace HK :=Aside0.mk (HK.out.trans hk);clear hR hk) | ((first | (go_at_call 57;refine (c_decode_Needs _ _ _ _).mono ?_) | (go_at_call 61;refine (c_decode_Parts _ _).mono ?_) | (go_at_call 93;refine (Get _ _ _ _).mono ?_));rintro e V ⟨rfl,hb⟩;replace h :=Aside0.mk (h.out.under hb);replace HK :=Aside0.mk (HK.out.andBelow hb);clear hb) | ((with_reducible refine gate_region 15 ?_);(refine region_schV (RC g W A gl cp _ _) [(0,0),(1,0),(2,0),(3,0),(4,0),(5,0),(6,0),(8,0),(9,0),(10,0),(11,0),(12,0),(7,1),(13,1),(14,2),(15,0),(16,0),(17,0)] [18,19,20,21,22,23,24,25] [18,19,20,21,22,23,24,25] 26 (by kernel_rfl) rfl rfl (by kernel_rfl) (by intro c a d v w h;cases d <;> exact h) (RC.mk (HK.out.drewN 1) (h.out.drewN 1)) (fun V hS0 => ?_));(repeat ((first | (refine Sch.pureN (v :=?_) (a' :=?_) rfl rfl (by rfl) ?_ ?_ ?_;rotate_left 2;(· (intro w';go_simp <;> with_reducible rfl))) | (refine Sch.takeN (v :=?_) (a' :=?_) rfl rfl (by rfl) hS0 ?_ ?_ ?_;rotate_left 2;(· (intro w' hS';(first | (have q :=hS'.row.cell 0 _ rfl;(try dsimp only [Rw.put,Rw.regs,Rw.fetched] at q);go_simp <;> with_reducible rfl) | (have q :=hS'.row.cell 1 _ rfl;(try dsimp only [Rw.put,Rw.regs,Rw.fetched] at q);go_simp <;> with_reducible rfl))))));(· (simp only [aput] <;> rfl))));(refine Sch.call (N :=(some 97)) rfl rfl Tryz.func96 (by kernel_rfl) rfl ?_ (by rfl) rfl ?_ ?_;rotate_left;(· (go_simp <;> with_reducible rfl));refine (c_alu_Do _ _ _ _ _ hS0.row.tab).mono ?_;rintro e V ⟨rfl,hb⟩;replace hS0 :=hS0.step hb;clear hb;refine ⟨hS0,?_⟩;refine Sch.norm (a' :=?_) ?_ ?_;rotate_left;(· (simp only [aput] <;> rfl)));(repeat ((refine Sch.pureN (v :=?_) (a' :=?_) rfl rfl (by rfl) ?_ ?_ ?_;rotate_left 2;(· (intro w';go_simp <;> with_reducible rfl)));(· (simp only [aput] <;> rfl))));(refine Sch.tail 18 8 rfl rfl ?_;simp only [List.drop_succ_cons,List.drop_zero,List.drop_nil]);clear h HK;have h :=Aside0.mk hS0.row;have HK :=Aside0.mk hS0.kp;clear hS0));(try clear c0 c1 c27);skip;have c0 :=h.out.cell 0 _ rfl;have c1 :=h.out.cell 1 _ rfl;have c27 :=h.out.cell 27 _ rfl;(try dsimp only [Rw.put,Rw.regs,Rw.fetched] at c0 c1 c27)) | ((with_reducible refine gate_load 24 ?_);refine wpList_load_regs h.out rfl _ rfl rfl ?_))
 all_goals (try (repeat (split at hs <;> first | (exfalso;(simp_all;done)) | skip)))
 all_goals ((go_end0;exact Post.done (enc :=fun _ : Unit => Value.tuple #[]) hs.out HK.out h.out))
end Go.Proofs.YtnelghpendfdmaaGreatDoor.KRow
/-
 The row's methods setMore, instruction, interrupt as functions of what is in the row: trees of requests (definitions alone).
-/
namespace Go.Proofs.YtnelghpendfdmaaGreatDoor.KRow
open Go Go.RowKit Go.Proofs.YtnelghpendfdmaaGreatDoorW.PrintWords
open Go.Proofs.YtnelghpendfdmaaGreatDoor.HFun
set_option linter.unusedVariables false
def imOf (y : Int) : Int :=if y % 4 = 2 then 1 else if y % 4 = 3 then 2 else 0
noncomputable def Rw.more1 (ρ : Rw) (y z p q : Int) : Tr Unit :=
 if z = 0 then (ρ.inp ρ.bc0).bind fun v ρ1 => .ret () { ρ1.regs (ρ1.toRg.put1 (rmod 0 3) (rmod y 8) v) with f :=ownFlags v (ρ1.toRg.put1 (rmod 0 3) (rmod y 8) v).f (aParity v),wz :=inc16 ρ.bc0 }
 else if z = 1 then (ρ.out ρ.bc0 (ρ.toRg.get (rmod 0 3) (rmod y 8))).bind fun _ ρ1 => .ret () { ρ1 with wz :=inc16 ρ.bc0 }
 else if z = 2 then (ρ.idle 7).bind fun _ ρ =>
  if q = 0 then .ret () { ρ with wz :=inc16 ρ.hl0,h :=(vWSbc1 ρ.hl0 (({ ρ with wz :=inc16 ρ.hl0 } : Rw).pair p false) ρ.f) / 256 % 256,l :=(vWSbc1 ρ.hl0 (({ ρ with wz :=inc16 ρ.hl0 } : Rw).pair p false) ρ.f) % 256,f :=(vWSbc2 ρ.hl0 (({ ρ with wz :=inc16 ρ.hl0 } : Rw).pair p false) ρ.f) }
  else .ret () { ρ with wz :=inc16 ρ.hl0,h :=(vWAdc1 ρ.hl0 (({ ρ with wz :=inc16 ρ.hl0 } : Rw).pair p false) ρ.f) / 256 % 256,l :=(vWAdc1 ρ.hl0 (({ ρ with wz :=inc16 ρ.hl0 } : Rw).pair p false) ρ.f) % 256,f :=(vWAdc2 ρ.hl0 (({ ρ with wz :=inc16 ρ.hl0 } : Rw).pair p false) ρ.f) }
 else if z = 3 then (if q = 0 then (ρ.store (ρ.pair p false)).bind fun _ ρ => .ret () ρ else ρ.load.bind fun v ρ => (ρ.putPair p false v).bind fun _ ρ => .ret () ρ)
 else if z = 4 then .ret () { ρ with a :=(vANeg1 ρ.a),f :=(vANeg2 ρ.a) }
 else if z = 5 then (({ ρ with ff1 :=ρ.ff2 } : Rw).rets).bind fun _ ρ => .ret () ρ
 else if z = 6 then .ret () { ρ with im :=imOf y }
 else (ρ.accumulator y ρ.hl0).bind fun _ ρ => .ret () ρ
noncomputable def Rw.setMore (ρ : Rw) (op : Int) : Tr Unit :=
 if px op = 2 ∧ 4 ≤ py op ∧ pz op ≤ 3 then (ρ.block (py op) (pz op)).bind fun _ ρ => .ret () ρ
 else if px op = 1 then ρ.more1 (py op) (pz op) (pp op) (pq op) else .ret () ρ
def Rw.second (ρ : Rw) : Tr Unit :=
 ρ.fetch.bind fun op ρ => if op = 203 then ρ.setBoth.bind fun _ ρ => .ret () ρ else if op = 221 ∨ op = 237 ∨ op = 253 then .ret () ρ else (ρ.main (wrap64 op)).bind fun _ ρ => .ret () ρ
noncomputable def Rw.instr (ρ : Rw) (one : Bool) : Tr Unit :=
 if ρ.halt = true then ρ.halted.bind fun _ ρ => .ret () ρ
 else (({ ρ with late :=false } : Rw).fetch).bind fun op ρ =>
  if op = 221 ∨ op = 253 then
   if one = true ∧ (ρ.peek = 221 ∨ ρ.peek = 237 ∨ ρ.peek = 253) then .ret () { ρ with late :=true }
   else if op = 253 then ({ ρ with x :=2 } : Rw).second else ({ ρ with x :=1 } : Rw).second
  else if op = 203 then ρ.fetch.bind fun b ρ => (ρ.setBits (wrap64 b)).bind fun _ ρ => .ret () ρ
  else if op = 237 then ρ.fetch.bind fun b ρ => (ρ.setMore (wrap64 b)).bind fun _ ρ => .ret () ρ
  else (ρ.main (wrap64 op)).bind fun _ ρ => .ret () ρ
end Go.Proofs.YtnelghpendfdmaaGreatDoor.KRow
