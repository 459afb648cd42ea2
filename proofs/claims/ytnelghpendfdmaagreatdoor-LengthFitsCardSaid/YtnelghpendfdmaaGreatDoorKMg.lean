/-
 PROVED: the contracts of the row's method block and of its closure.
-/
import Derived.Test.YtnelghpendfdmaaGreatDoorKMc
import Derived.Test.YtnelghpendfdmaaGreatDoorKPl
namespace Go.Proofs.YtnelghpendfdmaaGreatDoor.KRow
set_option maxRecDepth 100000
set_option maxHeartbeats 16000000
open Go Go.RowKit Go.Proofs.YtnelghpendfdmaaGreatDoorW.PrintWords Go.Proofs.YtnelghpendfdmaaGreatDoorW.PrintLast Go.Proofs.YtnelghpendfdmaaGreatDoorW.PrintMore
open Go.Proofs.YtnelghpendfdmaaGreatDoor.HFun
set_option linter.unusedVariables false
set_option linter.unusedSimpArgs false
structure Bx (g b : Nat) (rep : Bool) (V : World) : Prop where
 lt : g < b
 size : b + 1 + 1 < V.heap.size
 c0 : V.cell? ⟨b,0,none⟩ = some (.pointer (some ⟨g,0,none⟩))
 c1 : V.cell? ⟨b + 1,0,none⟩ = some (.pointer (some ⟨g,0,none⟩))
 c2 : V.cell? ⟨b + 1 + 1,0,none⟩ = some (.bool rep)
section
variable {g b : Nat} {rep : Bool} {w V V' : World} {A : Option Addr} {gl : List Int} {cp n : Nat} {ρ : Rw}
theorem Bx.same (h : Bx g b rep V) (hs : V.heap.size ≤ V'.heap.size) (hb : ∀ k,k < V.heap.size → k ≠ g → V'.heap[k]? = V.heap[k]?) : Bx g b rep V' :=by
 have l :=h.lt
 have s :=h.size
 exact ⟨h.lt,Nat.lt_of_lt_of_le h.size hs,(World.cell?_of_block (w :=V) (a :=⟨b,0,none⟩) (hb b (by omega) (by omega))).trans h.c0,(World.cell?_of_block (w :=V) (a :=⟨b + 1,0,none⟩) (hb (b + 1) (by omega) (by omega))).trans h.c1,
  (World.cell?_of_block (w :=V) (a :=⟨b + 1 + 1,0,none⟩) (hb (b + 1 + 1) (by omega) (by omega))).trans h.c2⟩
theorem Bx.kp (h : Bx g b rep V) (hk : Kp g V V') : Bx g b rep V' :=h.same hk.size hk.block
theorem Bx.below (h : Bx g b rep V) (hk : Below V.heap.size V V') : Bx g b rep V' :=h.same hk.size (fun k hk' _ => hk.block k hk')
structure RCx (g : Nat) (w : World) (A : Option Addr) (gl : List Int) (cp n : Nat) (ρ : Rw) (b : Nat) (rep : Bool) (V : World) : Prop where
 rc : RC g w A gl cp n ρ V
 bx : Bx g b rep V
theorem RCx.step (c : RCx g w A gl cp n ρ b rep V) (hb : Below V.heap.size V V') : RCx g w A gl cp n ρ b rep V' :=⟨c.rc.step hb,c.bx.below hb⟩
theorem gen3b {P : World → Prop} (h : RowAt w g A gl cp n ρ) (rep : Bool) (k : ∀ V,Kp g w V → RowAt V g A gl cp n ρ → Bx g w.heap.size rep V → P V) :
  P (((w.alloc (.cells #[.pointer (some ⟨g,0,none⟩)] 89)).alloc (.cells #[.pointer (some ⟨g,0,none⟩)] 107)).alloc (.cells #[.bool rep] 4)) :=by
 have hb : Below w.heap.size w (((w.alloc (.cells #[.pointer (some ⟨g,0,none⟩)] 89)).alloc (.cells #[.pointer (some ⟨g,0,none⟩)] 107)).alloc (.cells #[.bool rep] 4)) :=below_alloc (below_alloc (below_alloc (Below.refl _ _) _) _) _
 refine k _ (Kp.of_below hb) (h.under hb) ⟨h.lt,by simp,?_,?_,?_⟩
 ·go_simp
 ·go_simp
 ·go_simp
theorem Sch.store_u8 {ops : Array Oper} {S : World → Prop} {Q : Exit → Act → World → Prop} {tl : List Nat} {i m : Nat} {o : Oper} {r : List (Nat × Nat)} {a : Act} (h : RowAt V g A gl cp n ρ) (ho : ops[i]? = some o) (hN : o.dst = none) (hg : Region.wanted o (yielded ops a.tmps) = true)
  (x y : Operand) (hop : o.op = .store 5 x y) (k0 : Nat) (v : Int) (hx : a.eval x = .pointer (some ⟨g,k0,none⟩)) (hy : a.eval y = .int .u8 v) (hv : (ρ.put k0 (.int .u8 v)).cells A gl cp n = (ρ.cells A gl cp n).set k0 (.int .u8 v)) (hlt : k0 < 30)
  (k : ∀ V',Kp g V V' → RowAt V' g A gl cp n (ρ.put k0 (.int .u8 v)) → S V' ∧ Sch Tryz.prog ops S Q tl r a V') : Sch Tryz.prog ops S Q tl ((i,m + 2) :: r) a V :=by
 obtain ⟨old,hold⟩ : ∃ u,(ρ.cells A gl cp n)[k0]? = some u :=⟨_,List.getElem?_eq_getElem (by simpa [Rw.cells] using hlt)⟩
 have hrun :=zbf (W :=V) (g :=g) infoU8 (.int .u8 v) k0 rfl rfl (by rw [h.cell _ _ hold];rfl) (h.frz _)
 have hk :=k _ ((Kp.refl g V).setCell k0 (.int .u8 v)) (h.set k0 _ _ n hv hlt)
 refine Sch.skip ho hN hg ?_ hk.1 hk.2
 unfold execOp
 simp only [hop,hx,hy,Instr.storeAt,Instr.sureAddr,Sem.run_bind,Sem.run_pure,Result.andThen_ok,hrun]
end
theorem again_true_true {W : World} {g : Nat} {A : Option Addr} {gl : List Int} {cp n : Nat} {ρ : Rw} (h : RowAt W g A gl cp n ρ) {b : Nat} (hx : Bx g b true W) :
  Calls Tryz.prog 139 #[.bool true,.pointer (some ⟨b + 1 + 1,0,none⟩),.pointer (some ⟨b,0,none⟩),.pointer (some ⟨b + 1,0,none⟩)] W (Post W g A gl cp (fun _ : Unit => .tuple #[]) (Tr.run gl (ρ.again (true && true)) n)) :=by
 obtain ⟨o,ho⟩ : ∃ o,o = Tr.run gl (ρ.again (true && true)) n :=⟨_,rfl⟩
 rw [← ho]
 have hs :=ho
 clear ho
 unfold Rw.again sub2 at hs
 replace hs :=Aside0.mk hs
 have HK :=Aside0.mk (Kp.refl g W)
 replace h :=Aside0.mk h
 replace hx :=Aside0.mk hx
 (try clear k0 k1 k2);have k0 :=hx.out.c0;have k1 :=hx.out.c1;have k2 :=hx.out.c2;have c13 :=h.out.cell 13 _ rfl;(try dsimp only [Rw.put,Rw.regs,Rw.fetched] at c13)
 go_enter Tryz.func139,Tryz.ntmps139
 go_wp2_with ((first | ((first | (go_at_call 85;(try (repeat (split at hs <;> first | (exfalso;contradiction) | skip)));refine Post.cpsA (idle h.out _) ?_ ?_;(· exact (fun k a v t V ho hk => ⟨rfl,Post.asks (hs.out.trans (Tr.run_ask ho)) (HK.out.trans hk)⟩));intro v ρ1 n1 V ho hk hR;replace hs :=Aside0.mk (hs.out.trans (Tr.run_ok ho));(have hi :=zbd ho;subst hi);clear ho) | ((((with_reducible refine gate_store 22 ?_);refine zae h.out rfl _ _ rfl _ _ rfl rfl rfl (by decide) ?_));intro V hk hR));(try dsimp only [Rw.put,Rw.regs,Rw.fetched] at hR);replace h :=Aside0.mk hR;replace HK :=Aside0.mk (HK.out.trans hk);replace hx :=Aside0.mk (hx.out.kp hk);clear hR hk) | ((with_reducible refine gate_region 3 ?_);(refine zad (RCx g W A gl cp _ _ _ _) [(0,1),(1,1),(2,0),(3,0),(4,1),(5,0)] [6,7,8] [6,7,8] 9 (by kernel_rfl) rfl rfl (by kernel_rfl) (by intro c a d v w h;cases d <;> exact h) (RCx.mk (RC.mk (HK.out.drewN 1) (h.out.drewN 1)) (hx.out.below ⟨rfl,rfl,rfl,Nat.le_refl _,fun _ _ => rfl⟩)) (fun V hS0 => ?_));(repeat ((first | (refine Sch.pureN (v :=?_) (a' :=?_) rfl rfl (by rfl) ?_ ?_ ?_;rotate_left 2;(· (intro w';go_simp <;> with_reducible rfl))) | (refine Sch.takeN (v :=?_) (a' :=?_) rfl rfl (by rfl) hS0 ?_ ?_ ?_;rotate_left 2;(· (intro w' hS';(first | (have q :=hS'.bx.c1;go_simp <;> with_reducible rfl) | (have q :=hS'.rc.row.cell 13 _ rfl;(try dsimp only [Rw.put,Rw.regs,Rw.fetched] at q);go_simp <;> with_reducible rfl))))));(· (simp only [aput] <;> rfl))));(refine Sch.tail 6 3 rfl rfl ?_;simp only [List.drop_succ_cons,List.drop_zero,List.drop_nil]);clear h HK hx;have h :=Aside0.mk hS0.rc.row;have HK :=Aside0.mk hS0.rc.kp;have hx :=Aside0.mk hS0.bx;clear hS0));(try clear c13);(try clear k0 k1 k2);have k0 :=hx.out.c0;have k1 :=hx.out.c1;have k2 :=hx.out.c2;have c13 :=h.out.cell 13 _ rfl;(try dsimp only [Rw.put,Rw.regs,Rw.fetched] at c13))
 all_goals ((go_end0;exact Post.done (enc :=fun _ : Unit => Value.tuple #[]) hs.out HK.out h.out))
theorem jo1 : (∀ {W : World} {g : Nat} {A : Option Addr} {gl : List Int} {cp n : Nat} {ρ : Rw} (h : RowAt W g A gl cp n ρ) {b : Nat} (hx : Bx g b true W), Calls Tryz.prog 139 #[.bool false,.pointer (some ⟨b + 1 + 1,0,none⟩),.pointer (some ⟨b,0,none⟩),.pointer (some ⟨b + 1,0,none⟩)] W (Post W g A gl cp (fun _ : Unit => .tuple #[]) (Tr.run gl (ρ.again (true && false)) n))) ∧ (∀ {W : World} {g : Nat} {A : Option Addr} {gl : List Int} {cp n : Nat} {ρ : Rw} (h : RowAt W g A gl cp n ρ) {b : Nat} (hx : Bx g b false W), Calls Tryz.prog 139 #[.bool true,.pointer (some ⟨b + 1 + 1,0,none⟩),.pointer (some ⟨b,0,none⟩),.pointer (some ⟨b + 1,0,none⟩)] W (Post W g A gl cp (fun _ : Unit => .tuple #[]) (Tr.run gl (ρ.again (false && true)) n))) ∧ (∀ {W : World} {g : Nat} {A : Option Addr} {gl : List Int} {cp n : Nat} {ρ : Rw} (h : RowAt W g A gl cp n ρ) {b : Nat} (hx : Bx g b false W), Calls Tryz.prog 139 #[.bool false,.pointer (some ⟨b + 1 + 1,0,none⟩),.pointer (some ⟨b,0,none⟩),.pointer (some ⟨b + 1,0,none⟩)] W (Post W g A gl cp (fun _ : Unit => .tuple #[]) (Tr.run gl (ρ.again (false && false)) n))) :=by
 refine ⟨?_,?_,?_⟩
 all_goals
  intro W g A gl cp n ρ h b hx
  first | (obtain ⟨o,ho⟩ : ∃ o,o = Tr.run gl (ρ.again (true && false)) n :=⟨_,rfl⟩;rw [← ho]) | (obtain ⟨o,ho⟩ : ∃ o,o = Tr.run gl (ρ.again (false && true)) n :=⟨_,rfl⟩;rw [← ho]) | (obtain ⟨o,ho⟩ : ∃ o,o = Tr.run gl (ρ.again (false && false)) n :=⟨_,rfl⟩;rw [← ho])
  have hs :=ho
  clear ho
  unfold Rw.again sub2 at hs
  replace hs :=Aside0.mk hs
  have HK :=Aside0.mk (Kp.refl g W)
  replace h :=Aside0.mk h
  replace hx :=Aside0.mk hx
  (try clear k0 k1 k2);have k0 :=hx.out.c0;have k1 :=hx.out.c1;have k2 :=hx.out.c2;have c13 :=h.out.cell 13 _ rfl;(try dsimp only [Rw.put,Rw.regs,Rw.fetched] at c13)
  go_enter Tryz.func139,Tryz.ntmps139
  go_wp2_with ((fail);(try clear c13);(try clear k0 k1 k2);have k0 :=hx.out.c0;have k1 :=hx.out.c1;have k2 :=hx.out.c2;have c13 :=h.out.cell 13 _ rfl;(try dsimp only [Rw.put,Rw.regs,Rw.fetched] at c13))
  all_goals (try (repeat (split at hs <;> first | (exfalso;contradiction) | skip)))
  all_goals ((go_end0;exact Post.done (enc :=fun _ : Unit => Value.tuple #[]) hs.out HK.out h.out))
theorem again {W : World} {g : Nat} {A : Option Addr} {gl : List Int} {cp n : Nat} {ρ : Rw} {b : Nat} {rep : Bool} (h : RowAt W g A gl cp n ρ) (hx : Bx g b rep W) (is : Bool) :
  Calls Tryz.prog 139 #[.bool is,.pointer (some ⟨b + 1 + 1,0,none⟩),.pointer (some ⟨b,0,none⟩),.pointer (some ⟨b + 1,0,none⟩)] W (Post W g A gl cp (fun _ : Unit => .tuple #[]) (Tr.run gl (ρ.again (rep && is)) n)) :=by
 cases rep <;> cases is
 ·exact jo1.2.2 h hx
 ·exact jo1.2.1 h hx
 ·exact jo1.1 h hx
 ·exact again_true_true h hx
end Go.Proofs.YtnelghpendfdmaaGreatDoor.KRow
