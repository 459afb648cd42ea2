/-
 PROVED: the contracts of the row's small methods (asking the bus, words, pairs, bytes by code).
-/
import Derived.Test.YtnelghpendfdmaaGreatDoorKMod
namespace Go.Proofs.YtnelghpendfdmaaGreatDoor.KRow
set_option maxRecDepth 100000
set_option maxHeartbeats 16000000
open Go Go.RowKit Go.Proofs.YtnelghpendfdmaaGreatDoorW.PrintWords Go.Proofs.YtnelghpendfdmaaGreatDoorW.PrintLast Go.Proofs.YtnelghpendfdmaaGreatDoorW.PrintMore
open Go.Proofs.YtnelghpendfdmaaGreatDoor.HFun
set_option linter.unusedVariables false
set_option linter.unusedSimpArgs false
structure RC (g : Nat) (w : World) (A : Option Addr) (gl : List Int) (cp n : Nat) (ρ : Rw) (V : World) : Prop where
 kp : Kp g w V
 row : RowAt V g A gl cp n ρ
section
variable {g : Nat} {w V V' : World} {A : Option Addr} {gl : List Int} {cp n n1 : Nat} {ρ ρ1 : Rw}
theorem RC.step (c : RC g w A gl cp n ρ V) (hb : Below V.heap.size V V') : RC g w A gl cp n ρ V' :=⟨c.kp.andBelow hb,c.row.under hb⟩
theorem RC.load24 (c : RC g w A gl cp n ρ V) {op : Oper} {a : Act} (x : Operand) (ho : op.op = .load 24 x) (hx : a.eval x = .pointer (some ⟨g,0,none⟩)) : (execOp a.eval op).run Tryz.prog V = .ok (.value (.agg ρ.vals)) V :=by
 have hrun :=run_loadAt_mid (P :=Tryz.prog) V g 0 24 ρ.vals.toList _ c.row.range Tryz.underlying24 rfl info24
 unfold execOp
 simp only [ho,hx,hrun,Sem.run_bind,Sem.run_pure,Result.andThen_ok]
theorem Tr.bind_ok {α β : Type} {t : Tr α} {F : α → Rw → Tr β} {x : β} (h : (t.bind F).run gl n = .ok x ρ1 n1) : ∃ v ρ2 n2,t.run gl n = .ok v ρ2 n2 ∧ (F v ρ2).run gl n2 = .ok x ρ1 n1 :=by
 cases ht : t.run gl n with
 | ok v ρ2 n2 => exact ⟨v,ρ2,n2,rfl,(Tr.run_ok ht).symm.trans h⟩
 | ask k a v y => rw [Tr.run_ask ht] at h;cases h
theorem req_inv {k a v t : Int} {x : Int} (h : (ρ.req k a v t).run gl n = .ok x ρ1 n1) : ρ1 = ρ :=by
 unfold Rw.req at h
 simp only [Tr.run] at h
 split at h
 ·cases h;rfl
 ·cases h
theorem ret_inv {α : Type} {v x : α} {s : Rw} (h : (Tr.ret v s).run gl n = .ok x ρ1 n1) : ρ1 = s :=by cases h;rfl
theorem zbd {t : Int} {x : _} (h : (ρ.idle t).run gl n = .ok x ρ1 n1) : ρ1 = ρ :=by
 obtain ⟨_,_,_,h1,h2⟩ :=Tr.bind_ok h
 obtain rfl :=req_inv h1
 exact ret_inv h2
theorem zbm {a : Int} {x : _} (h : (ρ.read a).run gl n = .ok x ρ1 n1) : ρ1 = ρ :=by
 obtain ⟨_,_,_,h1,h2⟩ :=Tr.bind_ok h
 obtain rfl :=req_inv h1
 exact ret_inv h2
theorem zbh {a v : Int} {x : _} (h : (ρ.write a v).run gl n = .ok x ρ1 n1) : ρ1 = ρ :=by
 obtain ⟨_,_,_,h1,h2⟩ :=Tr.bind_ok h
 obtain rfl :=req_inv h1
 exact ret_inv h2
theorem inp_inv {a : Int} {x : _} (h : (ρ.inp a).run gl n = .ok x ρ1 n1) : ρ1 = ρ :=by
 obtain ⟨_,_,_,h1,h2⟩ :=Tr.bind_ok h
 obtain rfl :=req_inv h1
 exact ret_inv h2
theorem out_inv {a v : Int} {x : _} (h : (ρ.out a v).run gl n = .ok x ρ1 n1) : ρ1 = ρ :=by
 obtain ⟨_,_,_,h1,h2⟩ :=Tr.bind_ok h
 obtain rfl :=req_inv h1
 exact ret_inv h2
theorem fetch_inv {x : Int} (h : (ρ.fetch).run gl n = .ok x ρ1 n1) : ρ1 = ρ.fetched :=by
 obtain ⟨_,_,_,h1,h2⟩ :=Tr.bind_ok h
 obtain rfl :=req_inv h1
 exact ret_inv h2
theorem zcc {x : Int} (h : (ρ.next).run gl n = .ok x ρ1 n1) : ρ1 = { ρ with pc :=zbk ρ.pc } :=by
 obtain ⟨_,_,_,h1,h2⟩ :=Tr.bind_ok h
 obtain rfl :=zbm h1
 exact ret_inv h2
theorem word_inv {x : Int} (h : (ρ.word).run gl n = .ok x ρ1 n1) : ρ1 = { ρ with pc :=zbk (zbk ρ.pc) } :=by
 obtain ⟨_,_,_,h1,h2⟩ :=Tr.bind_ok h
 obtain rfl :=zcc h1
 obtain ⟨_,_,_,h3,h4⟩ :=Tr.bind_ok h2
 obtain rfl :=zcc h3
 exact ret_inv h4
theorem push_inv {v : Int} {x : Unit} (h : (ρ.push v).run gl n = .ok x ρ1 n1) : ρ1 = { ρ with sp :=dec16 (dec16 ρ.sp) } :=by
 obtain ⟨_,_,_,h1,h2⟩ :=Tr.bind_ok h
 obtain rfl :=zbh h1
 obtain ⟨_,_,_,h3,h4⟩ :=Tr.bind_ok h2
 obtain rfl :=zbh h3
 exact ret_inv h4
theorem pop_inv {x : Int} (h : (ρ.pop).run gl n = .ok x ρ1 n1) : ρ1 = { ρ with sp :=zbk (zbk ρ.sp) } :=by
 obtain ⟨_,_,_,h1,h2⟩ :=Tr.bind_ok h
 obtain rfl :=zbm h1
 obtain ⟨_,_,_,h3,h4⟩ :=Tr.bind_ok h2
 obtain rfl :=zbm h3
 exact ret_inv h4
theorem putPair_inv {c v : Int} {st : Bool} {x : Unit} (h : (ρ.putPair c st v).run gl n = .ok x ρ1 n1) : ρ1 = ρ.regs (ρ.toRg.putPair (rmod ρ.x 3) (rmod c 4) st v) :=ret_inv h
theorem put8_inv {c v : Int} {x : Unit} (h : (ρ.put8 c v).run gl n = .ok x ρ1 n1) : ρ1 = ρ.regs (ρ.toRg.put1 (rmod ρ.byteIndex 3) (rmod c 8) v) :=ret_inv h
end
theorem zat (a b : Int) (w : World) : Calls Tryz.prog 82 #[.int .u8 a,.int .u8 b] w fun e w' => e = .returned (.int .u16 (zbg a b)) ∧ Below w.heap.size w w' :=(ydh.calls a b _ w (zba a b)).mono fun _ _ h => ⟨h.1,zan h.2⟩
theorem zbe (a : Int) (w : World) : Calls Tryz.prog 107 #[.int .u16 a] w fun e w' => e = .returned (.tuple #[.int .u8 (a / 256 % 256),.int .u8 (a % 256)]) ∧ Below w.heap.size w w' :=(ydr.calls a _ _ w (zby a)).mono fun _ _ h => ⟨h.1,zan h.2⟩
theorem idle {W : World} {g : Nat} {A : Option Addr} {gl : List Int} {cp n : Nat} {ρ : Rw} (h : RowAt W g A gl cp n ρ) (t : Int) :
  Calls Tryz.prog 85 #[.pointer (some ⟨g,0,none⟩),.int .i64 t] W (Post W g A gl cp (fun _ : Unit => .tuple #[]) (Tr.run gl (ρ.idle t) n)) :=by
 obtain ⟨o,ho⟩ : ∃ o,o = Tr.run gl (ρ.idle t) n :=⟨_,rfl⟩
 rw [← ho]
 have hs :=ho
 clear ho
 unfold Rw.idle at hs
 replace hs :=Aside0.mk hs
 have HK :=Aside0.mk (Kp.refl g W)
 replace h :=Aside0.mk h
 skip;skip
 go_enter Tryz.func85,Tryz.ntmps85
 go_wp2_with (go_at_call 79;  refine Post.cpsA (request h.out _ _ _ _) ?_ ?_;(· exact (fun k a v t V ho hk => ⟨rfl,Post.asks (hs.out.trans (Tr.run_ask ho)) (HK.out.trans hk)⟩));intro v ρ1 n1 V ho hk hR;replace hs :=Aside0.mk (hs.out.trans (Tr.run_ok ho));(have hi :=req_inv ho;subst hi);clear ho;(try dsimp only [Rw.put,Rw.regs,Rw.fetched] at hR);replace h :=Aside0.mk hR;replace HK :=Aside0.mk (HK.out.trans hk);clear hR hk;skip;skip;skip)
 all_goals ((go_end0;exact Post.done (enc :=fun _ : Unit => Value.tuple #[]) hs.out HK.out h.out))
theorem read {W : World} {g : Nat} {A : Option Addr} {gl : List Int} {cp n : Nat} {ρ : Rw} (h : RowAt W g A gl cp n ρ) (a : Int) :
  Calls Tryz.prog 83 #[.pointer (some ⟨g,0,none⟩),.int .u16 a] W (Post W g A gl cp (.int .u8) (Tr.run gl (ρ.read a) n)) :=by
 obtain ⟨o,ho⟩ : ∃ o,o = Tr.run gl (ρ.read a) n :=⟨_,rfl⟩
 rw [← ho]
 have hs :=ho
 clear ho
 unfold Rw.read at hs
 replace hs :=Aside0.mk hs
 have HK :=Aside0.mk (Kp.refl g W)
 replace h :=Aside0.mk h
 skip;skip
 go_enter Tryz.func83,Tryz.ntmps83
 go_wp2_with (go_at_call 79;  refine Post.cpsA (request h.out _ _ _ _) ?_ ?_;(· exact (fun k a v t V ho hk => ⟨rfl,Post.asks (hs.out.trans (Tr.run_ask ho)) (HK.out.trans hk)⟩));intro v ρ1 n1 V ho hk hR;replace hs :=Aside0.mk (hs.out.trans (Tr.run_ok ho));(have hi :=req_inv ho;subst hi);clear ho;(try dsimp only [Rw.put,Rw.regs,Rw.fetched] at hR);replace h :=Aside0.mk hR;replace HK :=Aside0.mk (HK.out.trans hk);clear hR hk;skip;skip;skip)
 all_goals ((go_ret;exact Post.done hs.out HK.out h.out))
theorem write {W : World} {g : Nat} {A : Option Addr} {gl : List Int} {cp n : Nat} {ρ : Rw} (h : RowAt W g A gl cp n ρ) (a v : Int) :
  Calls Tryz.prog 89 #[.pointer (some ⟨g,0,none⟩),.int .u16 a,.int .u8 v] W (Post W g A gl cp (fun _ : Unit => .tuple #[]) (Tr.run gl (ρ.write a v) n)) :=by
 obtain ⟨o,ho⟩ : ∃ o,o = Tr.run gl (ρ.write a v) n :=⟨_,rfl⟩
 rw [← ho]
 have hs :=ho
 clear ho
 unfold Rw.write at hs
 replace hs :=Aside0.mk hs
 have HK :=Aside0.mk (Kp.refl g W)
 replace h :=Aside0.mk h
 skip;skip
 go_enter Tryz.func89,Tryz.ntmps89
 go_wp2_with (go_at_call 79;  refine Post.cpsA (request h.out _ _ _ _) ?_ ?_;(· exact (fun k a v t V ho hk => ⟨rfl,Post.asks (hs.out.trans (Tr.run_ask ho)) (HK.out.trans hk)⟩));intro v ρ1 n1 V ho hk hR;replace hs :=Aside0.mk (hs.out.trans (Tr.run_ok ho));(have hi :=req_inv ho;subst hi);clear ho;(try dsimp only [Rw.put,Rw.regs,Rw.fetched] at hR);replace h :=Aside0.mk hR;replace HK :=Aside0.mk (HK.out.trans hk);clear hR hk;skip;skip;skip)
 all_goals ((go_end0;exact Post.done (enc :=fun _ : Unit => Value.tuple #[]) hs.out HK.out h.out))
theorem inp {W : World} {g : Nat} {A : Option Addr} {gl : List Int} {cp n : Nat} {ρ : Rw} (h : RowAt W g A gl cp n ρ) (a : Int) :
  Calls Tryz.prog 99 #[.pointer (some ⟨g,0,none⟩),.int .u16 a] W (Post W g A gl cp (.int .u8) (Tr.run gl (ρ.inp a) n)) :=by
 obtain ⟨o,ho⟩ : ∃ o,o = Tr.run gl (ρ.inp a) n :=⟨_,rfl⟩
 rw [← ho]
 have hs :=ho
 clear ho
 unfold Rw.inp at hs
 replace hs :=Aside0.mk hs
 have HK :=Aside0.mk (Kp.refl g W)
 replace h :=Aside0.mk h
 skip;skip
 go_enter Tryz.func99,Tryz.ntmps99
 go_wp2_with (go_at_call 79;  refine Post.cpsA (request h.out _ _ _ _) ?_ ?_;(· exact (fun k a v t V ho hk => ⟨rfl,Post.asks (hs.out.trans (Tr.run_ask ho)) (HK.out.trans hk)⟩));intro v ρ1 n1 V ho hk hR;replace hs :=Aside0.mk (hs.out.trans (Tr.run_ok ho));(have hi :=req_inv ho;subst hi);clear ho;(try dsimp only [Rw.put,Rw.regs,Rw.fetched] at hR);replace h :=Aside0.mk hR;replace HK :=Aside0.mk (HK.out.trans hk);clear hR hk;skip;skip;skip)
 all_goals ((go_ret;exact Post.done hs.out HK.out h.out))
theorem out {W : World} {g : Nat} {A : Option Addr} {gl : List Int} {cp n : Nat} {ρ : Rw} (h : RowAt W g A gl cp n ρ) (a v : Int) :
  Calls Tryz.prog 103 #[.pointer (some ⟨g,0,none⟩),.int .u16 a,.int .u8 v] W (Post W g A gl cp (fun _ : Unit => .tuple #[]) (Tr.run gl (ρ.out a v) n)) :=by
 obtain ⟨o,ho⟩ : ∃ o,o = Tr.run gl (ρ.out a v) n :=⟨_,rfl⟩
 rw [← ho]
 have hs :=ho
 clear ho
 unfold Rw.out at hs
 replace hs :=Aside0.mk hs
 have HK :=Aside0.mk (Kp.refl g W)
 replace h :=Aside0.mk h
 skip;skip
 go_enter Tryz.func103,Tryz.ntmps103
 go_wp2_with (go_at_call 79;  refine Post.cpsA (request h.out _ _ _ _) ?_ ?_;(· exact (fun k a v t V ho hk => ⟨rfl,Post.asks (hs.out.trans (Tr.run_ask ho)) (HK.out.trans hk)⟩));intro v ρ1 n1 V ho hk hR;replace hs :=Aside0.mk (hs.out.trans (Tr.run_ok ho));(have hi :=req_inv ho;subst hi);clear ho;(try dsimp only [Rw.put,Rw.regs,Rw.fetched] at hR);replace h :=Aside0.mk hR;replace HK :=Aside0.mk (HK.out.trans hk);clear hR hk;skip;skip;skip)
 all_goals ((go_end0;exact Post.done (enc :=fun _ : Unit => Value.tuple #[]) hs.out HK.out h.out))
theorem fetch {W : World} {g : Nat} {A : Option Addr} {gl : List Int} {cp n : Nat} {ρ : Rw} (h : RowAt W g A gl cp n ρ) :
  Calls Tryz.prog 69 #[.pointer (some ⟨g,0,none⟩)] W (Post W g A gl cp (.int .u8) (Tr.run gl (ρ.fetch) n)) :=by
 obtain ⟨o,ho⟩ : ∃ o,o = Tr.run gl (ρ.fetch) n :=⟨_,rfl⟩
 rw [← ho]
 have hs :=ho
 clear ho
 unfold Rw.fetch at hs
 replace hs :=Aside0.mk hs
 have HK :=Aside0.mk (Kp.refl g W)
 replace h :=Aside0.mk h
 skip;have c13 :=h.out.cell 13 _ rfl;(try dsimp only [Rw.put,Rw.regs,Rw.fetched] at c13)
 go_enter Tryz.func69,Tryz.ntmps69
 go_wp2_with (first | ((first | ((first | (go_at_call 79;  refine Post.cpsA (request h.out _ _ _ _) ?_ ?_;(· exact (fun k a v t V ho hk => ⟨rfl,Post.asks (hs.out.trans (Tr.run_ask ho)) (HK.out.trans hk)⟩));intro v ρ1 n1 V ho hk hR;replace hs :=Aside0.mk (hs.out.trans (Tr.run_ok ho));(have hi :=req_inv ho;subst hi);clear ho) | ((first | ((with_reducible refine gate_store 22 ?_);refine zae h.out rfl _ _ rfl _ _ rfl rfl rfl (by decide) ?_) | ((with_reducible refine gate_store 24 ?_);refine zaz h.out rfl _ _ rfl _ rfl rfl ?_));intro V hk hR));(try dsimp only [Rw.put,Rw.regs,Rw.fetched] at hR);replace h :=Aside0.mk hR;replace HK :=Aside0.mk (HK.out.trans hk);clear hR hk) | (go_at_call 80;refine (Refresh _ _).mono ?_;rintro e V ⟨rfl,hb⟩;replace h :=Aside0.mk (h.out.under hb);replace HK :=Aside0.mk (HK.out.andBelow hb);clear hb));(try clear c13);skip;have c13 :=h.out.cell 13 _ rfl;(try dsimp only [Rw.put,Rw.regs,Rw.fetched] at c13)) | ((with_reducible refine gate_load 24 ?_);refine zay h.out rfl _ rfl rfl ?_))
 all_goals ((go_ret;exact Post.done hs.out HK.out h.out))
theorem next {W : World} {g : Nat} {A : Option Addr} {gl : List Int} {cp n : Nat} {ρ : Rw} (h : RowAt W g A gl cp n ρ) :
  Calls Tryz.prog 84 #[.pointer (some ⟨g,0,none⟩)] W (Post W g A gl cp (.int .u8) (Tr.run gl (ρ.next) n)) :=by
 obtain ⟨o,ho⟩ : ∃ o,o = Tr.run gl (ρ.next) n :=⟨_,rfl⟩
 rw [← ho]
 have hs :=ho
 clear ho
 unfold Rw.next at hs
 replace hs :=Aside0.mk hs
 have HK :=Aside0.mk (Kp.refl g W)
 replace h :=Aside0.mk h
 skip;have c13 :=h.out.cell 13 _ rfl;(try dsimp only [Rw.put,Rw.regs,Rw.fetched] at c13)
 go_enter Tryz.func84,Tryz.ntmps84
 go_wp2_with ((first | (go_at_call 83;  refine Post.cpsA (read h.out _) ?_ ?_;(· exact (fun k a v t V ho hk => ⟨rfl,Post.asks (hs.out.trans (Tr.run_ask ho)) (HK.out.trans hk)⟩));intro v ρ1 n1 V ho hk hR;replace hs :=Aside0.mk (hs.out.trans (Tr.run_ok ho));(have hi :=zbm ho;subst hi);clear ho) | ((((with_reducible refine gate_store 22 ?_);refine zae h.out rfl _ _ rfl _ _ rfl rfl rfl (by decide) ?_));intro V hk hR));(try dsimp only [Rw.put,Rw.regs,Rw.fetched] at hR);replace h :=Aside0.mk hR;replace HK :=Aside0.mk (HK.out.trans hk);clear hR hk;(try clear c13);skip;have c13 :=h.out.cell 13 _ rfl;(try dsimp only [Rw.put,Rw.regs,Rw.fetched] at c13))
 all_goals ((go_ret;exact Post.done hs.out HK.out h.out))
theorem halted {W : World} {g : Nat} {A : Option Addr} {gl : List Int} {cp n : Nat} {ρ : Rw} (h : RowAt W g A gl cp n ρ) :
  Calls Tryz.prog 68 #[.pointer (some ⟨g,0,none⟩)] W (Post W g A gl cp (fun _ : Unit => .tuple #[]) (Tr.run gl (ρ.halted) n)) :=by
 obtain ⟨o,ho⟩ : ∃ o,o = Tr.run gl (ρ.halted) n :=⟨_,rfl⟩
 rw [← ho]
 have hs :=ho
 clear ho
 unfold Rw.halted at hs
 replace hs :=Aside0.mk hs
 have HK :=Aside0.mk (Kp.refl g W)
 replace h :=Aside0.mk h
 skip;have c13 :=h.out.cell 13 _ rfl;(try dsimp only [Rw.put,Rw.regs,Rw.fetched] at c13)
 go_enter Tryz.func68,Tryz.ntmps68
 go_wp2_with (first | ((first | ((first | (go_at_call 79;  refine Post.cpsA (request h.out _ _ _ _) ?_ ?_;(· exact (fun k a v t V ho hk => ⟨rfl,Post.asks (hs.out.trans (Tr.run_ask ho)) (HK.out.trans hk)⟩));intro v ρ1 n1 V ho hk hR;replace hs :=Aside0.mk (hs.out.trans (Tr.run_ok ho));(have hi :=req_inv ho;subst hi);clear ho) | ((first | ((with_reducible refine gate_store 4 ?_);refine zbl h.out rfl _ _ rfl _ _ rfl rfl rfl (by decide) ?_) | ((with_reducible refine gate_store 24 ?_);refine zaz h.out rfl _ _ rfl _ rfl rfl ?_));intro V hk hR));(try dsimp only [Rw.put,Rw.regs,Rw.fetched] at hR);replace h :=Aside0.mk hR;replace HK :=Aside0.mk (HK.out.trans hk);clear hR hk) | (go_at_call 80;refine (Refresh _ _).mono ?_;rintro e V ⟨rfl,hb⟩;replace h :=Aside0.mk (h.out.under hb);replace HK :=Aside0.mk (HK.out.andBelow hb);clear hb));(try clear c13);skip;have c13 :=h.out.cell 13 _ rfl;(try dsimp only [Rw.put,Rw.regs,Rw.fetched] at c13)) | ((with_reducible refine gate_load 24 ?_);refine zay h.out rfl _ rfl rfl ?_))
 all_goals ((go_end0;exact Post.done (enc :=fun _ : Unit => Value.tuple #[]) hs.out HK.out h.out))
theorem word {W : World} {g : Nat} {A : Option Addr} {gl : List Int} {cp n : Nat} {ρ : Rw} (h : RowAt W g A gl cp n ρ) :
  Calls Tryz.prog 125 #[.pointer (some ⟨g,0,none⟩)] W (Post W g A gl cp (.int .u16) (Tr.run gl (ρ.word) n)) :=by
 obtain ⟨o,ho⟩ : ∃ o,o = Tr.run gl (ρ.word) n :=⟨_,rfl⟩
 rw [← ho]
 have hs :=ho
 clear ho
 unfold Rw.word at hs
 replace hs :=Aside0.mk hs
 have HK :=Aside0.mk (Kp.refl g W)
 replace h :=Aside0.mk h
 skip;skip
 go_enter Tryz.func125,Tryz.ntmps125
 go_wp2_with ((first | (go_at_call 84;  refine Post.cpsA (next h.out) ?_ ?_;(· exact (fun k a v t V ho hk => ⟨rfl,Post.asks (hs.out.trans (Tr.run_ask ho)) (HK.out.trans hk)⟩));intro v ρ1 n1 V ho hk hR;replace hs :=Aside0.mk (hs.out.trans (Tr.run_ok ho));(have hi :=zcc ho;subst hi);clear ho;(try dsimp only [Rw.put,Rw.regs,Rw.fetched] at hR);replace h :=Aside0.mk hR;replace HK :=Aside0.mk (HK.out.trans hk);clear hR hk) | (go_at_call 82;refine (zat _ _ _).mono ?_;rintro e V ⟨rfl,hb⟩;replace h :=Aside0.mk (h.out.under hb);replace HK :=Aside0.mk (HK.out.andBelow hb);clear hb));skip;skip;skip)
 all_goals ((go_ret;exact Post.done hs.out HK.out h.out))
theorem push {W : World} {g : Nat} {A : Option Addr} {gl : List Int} {cp n : Nat} {ρ : Rw} (h : RowAt W g A gl cp n ρ) (v : Int) :
  Calls Tryz.prog 81 #[.pointer (some ⟨g,0,none⟩),.int .u16 v] W (Post W g A gl cp (fun _ : Unit => .tuple #[]) (Tr.run gl (ρ.push v) n)) :=by
 obtain ⟨o,ho⟩ : ∃ o,o = Tr.run gl (ρ.push v) n :=⟨_,rfl⟩
 rw [← ho]
 have hs :=ho
 clear ho
 unfold Rw.push at hs
 replace hs :=Aside0.mk hs
 have HK :=Aside0.mk (Kp.refl g W)
 replace h :=Aside0.mk h
 skip;have c12 :=h.out.cell 12 _ rfl;(try dsimp only [Rw.put,Rw.regs,Rw.fetched] at c12)
 go_enter Tryz.func81,Tryz.ntmps81
 go_wp2_with ((first | ((first | (go_at_call 89;  refine Post.cpsA (write h.out _ _) ?_ ?_;(· exact (fun k a v t V ho hk => ⟨rfl,Post.asks (hs.out.trans (Tr.run_ask ho)) (HK.out.trans hk)⟩));intro v ρ1 n1 V ho hk hR;replace hs :=Aside0.mk (hs.out.trans (Tr.run_ok ho));(have hi :=zbh ho;subst hi);clear ho) | ((((with_reducible refine gate_store 22 ?_);refine zae h.out rfl _ _ rfl _ _ rfl rfl rfl (by decide) ?_));intro V hk hR));(try dsimp only [Rw.put,Rw.regs,Rw.fetched] at hR);replace h :=Aside0.mk hR;replace HK :=Aside0.mk (HK.out.trans hk);clear hR hk) | (go_at_call 107;refine (zbe _ _).mono ?_;rintro e V ⟨rfl,hb⟩;replace h :=Aside0.mk (h.out.under hb);replace HK :=Aside0.mk (HK.out.andBelow hb);clear hb));(try clear c12);skip;have c12 :=h.out.cell 12 _ rfl;(try dsimp only [Rw.put,Rw.regs,Rw.fetched] at c12))
 all_goals ((go_end0;exact Post.done (enc :=fun _ : Unit => Value.tuple #[]) hs.out HK.out h.out))
theorem pop {W : World} {g : Nat} {A : Option Addr} {gl : List Int} {cp n : Nat} {ρ : Rw} (h : RowAt W g A gl cp n ρ) :
  Calls Tryz.prog 136 #[.pointer (some ⟨g,0,none⟩)] W (Post W g A gl cp (.int .u16) (Tr.run gl (ρ.pop) n)) :=by
 obtain ⟨o,ho⟩ : ∃ o,o = Tr.run gl (ρ.pop) n :=⟨_,rfl⟩
 rw [← ho]
 have hs :=ho
 clear ho
 unfold Rw.pop at hs
 replace hs :=Aside0.mk hs
 have HK :=Aside0.mk (Kp.refl g W)
 replace h :=Aside0.mk h
 skip;have c12 :=h.out.cell 12 _ rfl;(try dsimp only [Rw.put,Rw.regs,Rw.fetched] at c12)
 go_enter Tryz.func136,Tryz.ntmps136
 go_wp2_with ((first | ((first | (go_at_call 83;  refine Post.cpsA (read h.out _) ?_ ?_;(· exact (fun k a v t V ho hk => ⟨rfl,Post.asks (hs.out.trans (Tr.run_ask ho)) (HK.out.trans hk)⟩));intro v ρ1 n1 V ho hk hR;replace hs :=Aside0.mk (hs.out.trans (Tr.run_ok ho));(have hi :=zbm ho;subst hi);clear ho) | ((((with_reducible refine gate_store 22 ?_);refine zae h.out rfl _ _ rfl _ _ rfl rfl rfl (by decide) ?_));intro V hk hR));(try dsimp only [Rw.put,Rw.regs,Rw.fetched] at hR);replace h :=Aside0.mk hR;replace HK :=Aside0.mk (HK.out.trans hk);clear hR hk) | (go_at_call 82;refine (zat _ _ _).mono ?_;rintro e V ⟨rfl,hb⟩;replace h :=Aside0.mk (h.out.under hb);replace HK :=Aside0.mk (HK.out.andBelow hb);clear hb));(try clear c12);skip;have c12 :=h.out.cell 12 _ rfl;(try dsimp only [Rw.put,Rw.regs,Rw.fetched] at c12))
 all_goals ((go_ret;exact Post.done hs.out HK.out h.out))
end Go.Proofs.YtnelghpendfdmaaGreatDoor.KRow
