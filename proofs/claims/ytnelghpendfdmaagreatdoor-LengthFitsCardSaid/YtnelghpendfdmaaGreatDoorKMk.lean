/-
 PROVED: the contracts of the row's methods instruction and interrupt.
-/
import Derived.Test.YtnelghpendfdmaaGreatDoorKMj
import Derived.Test.YtnelghpendfdmaaGreatDoorKMf
namespace Go.Proofs.YtnelghpendfdmaaGreatDoor.KRow
set_option maxRecDepth 100000
set_option maxHeartbeats 16000000
open Go Go.RowKit Go.Proofs.YtnelghpendfdmaaGreatDoorW.PrintWords Go.Proofs.YtnelghpendfdmaaGreatDoorW.PrintLast Go.Proofs.YtnelghpendfdmaaGreatDoorW.PrintMore
open Go.Proofs.YtnelghpendfdmaaGreatDoor.HFun
set_option linter.unusedVariables false
set_option linter.unusedSimpArgs false
theorem halt_eta {ρ : Rw} {b : Bool} (hh : ρ.halt = b) : ρ = { ρ with halt :=b } :=by
 rcases ρ with ⟨⟨⟩,_,_,_,_⟩
 simp only at hh
 subst hh
 rfl
theorem instr_halt {W : World} {g : Nat} {A : Option Addr} {gl : List Int} {cp n : Nat} {ρ : Rw} (h : RowAt W g A gl cp n ρ) (hh : ρ.halt = true) :
  Calls Tryz.prog 51 #[.pointer (some ⟨g,0,none⟩)] W (Post W g A gl cp (fun _ : Unit => .tuple #[]) (Tr.run gl (ρ.halted.bind fun _ ρ => .ret () ρ) n)) :=by
 obtain ⟨o,ho⟩ : ∃ o,o = Tr.run gl (ρ.halted.bind fun _ ρ => .ret () ρ) n :=⟨_,rfl⟩
 rw [← ho]
 have hs :=ho
 clear ho
 obtain ⟨σ,rfl⟩ : ∃ σ : Rw,ρ = { σ with halt :=true } :=⟨ρ,halt_eta hh⟩
 clear hh
 replace hs :=Aside0.mk hs
 have HK :=Aside0.mk (Kp.refl g W)
 replace h :=Aside0.mk h
 skip;have c22 :=h.out.cell 22 _ rfl;(try dsimp only [Rw.put,Rw.regs,Rw.fetched] at c22)
 go_enter Tryz.func51,Tryz.ntmps51
 go_wp2_with (go_at_call 68;  refine Post.cpsA (halted h.out) ?_ ?_;(· exact (fun k a v t V ho hk => ⟨rfl,Post.asks (hs.out.trans (Tr.run_ask ho)) (HK.out.trans hk)⟩));intro v ρ1 n1 V ho hk hR;replace hs :=Aside0.mk (hs.out.trans (Tr.run_ok ho));clear ho;(try dsimp only [Rw.put,Rw.regs,Rw.fetched] at hR);replace h :=Aside0.mk hR;replace HK :=Aside0.mk (HK.out.trans hk);clear hR hk;(try clear c22);skip;have c22 :=h.out.cell 22 _ rfl;(try dsimp only [Rw.put,Rw.regs,Rw.fetched] at c22))
 all_goals ((go_end0;exact Post.done (enc :=fun _ : Unit => Value.tuple #[]) hs.out HK.out h.out))
theorem jo3 : (∀ {W : World} {g : Nat} {A : Option Addr} {gl : List Int} {cp n : Nat} {ρ : Rw} (h : RowAt W g A gl cp n ρ) (hh : ρ.halt = false) (ho1 : (((gl.length : Nat) : Int) == 1) = true), Calls Tryz.prog 51 #[.pointer (some ⟨g,0,none⟩)] W (Post W g A gl cp (fun _ : Unit => .tuple #[]) (Tr.run gl (ρ.instr true) n))) ∧ (∀ {W : World} {g : Nat} {A : Option Addr} {gl : List Int} {cp n : Nat} {ρ : Rw} (h : RowAt W g A gl cp n ρ) (hh : ρ.halt = false) (ho1 : (((gl.length : Nat) : Int) == 1) = false), Calls Tryz.prog 51 #[.pointer (some ⟨g,0,none⟩)] W (Post W g A gl cp (fun _ : Unit => .tuple #[]) (Tr.run gl (ρ.instr false) n))) :=by
 refine ⟨?_,?_⟩
 all_goals
  intro W g A gl cp n ρ h hh ho1
  first | (obtain ⟨o,ho⟩ : ∃ o,o = Tr.run gl (ρ.instr true) n :=⟨_,rfl⟩;rw [← ho]) | (obtain ⟨o,ho⟩ : ∃ o,o = Tr.run gl (ρ.instr false) n :=⟨_,rfl⟩;rw [← ho])
  have hs :=ho
  clear ho
  unfold Rw.instr Rw.second at hs
  obtain ⟨σ,rfl⟩ : ∃ σ : Rw,ρ = { σ with halt :=false } :=⟨ρ,halt_eta hh⟩
  clear hh
  rw [if_neg (by exact Bool.false_ne_true)] at hs
  replace hs :=Aside0.mk hs
  have HK :=Aside0.mk (Kp.refl g W)
  replace h :=Aside0.mk h
  skip;have c22 :=h.out.cell 22 _ rfl;have c24 :=h.out.cell 24 _ rfl;have c26 :=h.out.cell 26 _ rfl;(try dsimp only [Rw.put,Rw.regs,Rw.fetched] at c22 c24 c26)
  go_enter Tryz.func51,Tryz.ntmps51
  go_wp2_with ((first | ((first | (go_at_call 69;(try (repeat (split at hs <;> first | (exfalso;(simp_all;done)) | skip)));refine Post.cpsA (fetch h.out) ?_ ?_;(· exact (fun k a v t V ho hk => ⟨rfl,Post.asks (hs.out.trans (Tr.run_ask ho)) (HK.out.trans hk)⟩));intro v ρ1 n1 V ho hk hR;replace hs :=Aside0.mk (hs.out.trans (Tr.run_ok ho));(have hi :=fetch_inv ho;subst hi);(try dsimp only [Rw.fetched] at hs)) | ((first | go_at_call 70 | go_at_call 71 | go_at_call 72 | go_at_call 73);(try (repeat (split at hs <;> first | (exfalso;(simp_all;done)) | skip)));(first | (go_at_call 70;refine Post.cpsA (setBoth h.out) ?_ ?_) | (go_at_call 71;refine Post.cpsA (main h.out _) ?_ ?_) | (go_at_call 72;refine Post.cpsA (setBits h.out _) ?_ ?_) | (go_at_call 73;refine Post.cpsA (setMore h.out _) ?_ ?_));(· exact (fun k a v t V ho hk => ⟨rfl,Post.asks (hs.out.trans (Tr.run_ask ho)) (HK.out.trans hk)⟩));intro v ρ1 n1 V ho hk hR;replace hs :=Aside0.mk (hs.out.trans (Tr.run_ok ho))));clear ho) | ((first | ((with_reducible refine gate_store 3 ?_);refine wpList_store_int h.out rfl _ _ rfl _ _ rfl rfl rfl (by decide) ?_) | ((with_reducible refine gate_store 4 ?_);refine zbl h.out rfl _ _ rfl _ _ rfl rfl rfl (by decide) ?_));intro V hk hR));(try dsimp only [Rw.put,Rw.regs,Rw.fetched] at hR);replace h :=Aside0.mk hR;replace HK :=Aside0.mk (HK.out.trans hk);clear hR hk;(try clear c22 c24 c26);skip;have c22 :=h.out.cell 22 _ rfl;have c24 :=h.out.cell 24 _ rfl;have c26 :=h.out.cell 26 _ rfl;(try dsimp only [Rw.put,Rw.regs,Rw.fetched] at c22 c24 c26))
  all_goals (try (repeat (split at hs <;> first | (exfalso;(simp_all;done)) | skip)))
  all_goals ((go_end0;exact Post.done (enc :=fun _ : Unit => Value.tuple #[]) hs.out HK.out h.out))
theorem instr {W : World} {g : Nat} {A : Option Addr} {gl : List Int} {cp n : Nat} {ρ : Rw} (h : RowAt W g A gl cp n ρ) :
  Calls Tryz.prog 51 #[.pointer (some ⟨g,0,none⟩)] W (Post W g A gl cp (fun _ : Unit => .tuple #[]) (Tr.run gl (ρ.instr (((gl.length : Nat) : Int) == 1)) n)) :=by
 cases hh : ρ.halt
 ·cases ho : (((gl.length : Nat) : Int) == 1)
  ·exact jo3.2 h hh ho
  ·exact jo3.1 h hh ho
 ·have :=instr_halt h hh
  unfold Rw.instr
  rw [if_pos hh]
  exact this
end Go.Proofs.YtnelghpendfdmaaGreatDoor.KRow
