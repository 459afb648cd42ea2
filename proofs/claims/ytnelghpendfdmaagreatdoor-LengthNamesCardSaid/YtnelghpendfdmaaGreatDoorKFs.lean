/-
 PROVED: the contract of (*length.Flat).row where nothing but reads and fetches is asked, and of Step.
-/
import Derived.Test.YtnelghpendfdmaaGreatDoorKFu
import Derived.Test.YtnelghpendfdmaaGreatDoorKOi
namespace Go.Proofs.YtnelghpendfdmaaGreatDoor.KRow
open Go Go.RowKit Go.Proofs.YtnelghpendfdmaaGreatDoorW.PrintWords Go.Proofs.YtnelghpendfdmaaGreatDoorW.PrintLast Go.Proofs.YtnelghpendfdmaaGreatDoorW.PrintMore
open Go.Proofs.YtnelghpendfdmaaGreatDoor.HFun
set_option linter.unusedVariables false
set_option linter.unusedSimpArgs false
noncomputable def frow (F : List Int → To) (m : Nat → Int) : Nat → List S56 → List Int → Option (List S56 × Rg)
 | 0,_,_ => none
 | n + 1,out,got => if (F got).e = 0 then (if (F got).d = true then some (out,(F got).s) else if ((F got).k = 1 ∨ (F got).k = 2) ∧ 0 ≤ (F got).a ∧ (F got).a < 65536 then frow F m n (out ++ [⟨(F got).k,(F got).a,(F got).v,(F got).t⟩]) (got ++ [m (F got).a.toNat]) else none) else none
theorem frow_inv {F : List Int → To} {m : Nat → Int} {n : Nat} {out : List S56} {got : List Int} {o : List S56} {s : Rg} (H : frow F m (n + 1) out got = some (o,s)) :
  ∃ (ck ca cv ct : Int) (cs : Rg) (cd : Bool),F got = ⟨ck,ca,cv,ct,cs,cd,0⟩ ∧ ((cd = true ∧ out = o ∧ cs = s) ∨ (cd = false ∧ (ck = 1 ∨ ck = 2) ∧ 0 ≤ ca ∧ ca < 65536 ∧ frow F m n (out ++ [⟨ck,ca,cv,ct⟩]) (got ++ [m ca.toNat]) = some (o,s))) :=by
 obtain ⟨c,hc⟩ : ∃ c,F got = c :=⟨_,rfl⟩
 obtain ⟨ck,ca,cv,ct,cs,cd,ce⟩ :=c
 unfold frow at H
 rw [hc] at H
 by_cases he : ce = 0
 case neg => rw [if_neg he] at H;cases H
 subst he
 refine ⟨ck,ca,cv,ct,cs,cd,hc,?_⟩
 rw [if_pos rfl] at H
 cases cd with
 | true =>
  rw [if_pos rfl] at H
  simp only [Option.some.injEq,Prod.mk.injEq] at H
  exact .inl ⟨rfl,H⟩
 | false =>
  rw [if_neg Bool.false_ne_true] at H
  simp only at H
  by_cases h : (ck = 1 ∨ ck = 2) ∧ 0 ≤ ca ∧ ca < 65536
  ·rw [if_pos h] at H
   exact .inr ⟨rfl,h.1,h.2.1,h.2.2,H⟩
  ·rw [if_neg h] at H;cases H
theorem wpList_stF {V : World} {g : Nat} {ρ : Rg} {m : Nat → Int} (h : FlatB V g ρ m) {ops : Array Oper} {rest : List Oper} {op : Oper} {a : Act} {Q : Exit → Act → World → Prop} (hgd : op.guard = none) (x y : Operand) (ho : op.op = .store 24 x y) (σ : Rg)
  (hx : a.eval x = .pointer (some ⟨g,0,none⟩)) (hy : a.eval y = .agg σ.vals)
  (k : ∀ V',V' = V.setCells g 0 σ.vals.toList → wpList Tryz.prog ops Q rest (a.put op.dst undef) V') : wpList Tryz.prog ops Q (op :: rest) a V :=
 wpList_store_mid hgd 24 x y ho g 0 σ.vals hx hy (fun j hj => by
  have h24 : σ.vals.size = 24 :=rfl
  rw [h24] at hj
  obtain ⟨u,hu⟩ : ∃ u,ρ.vals.toList[j]? = some u :=⟨_,List.getElem?_eq_getElem (by rw [show ρ.vals.toList.length = 24 from rfl];exact hj)⟩
  rw [Nat.zero_add]
  exact ⟨by rw [h.regs j u hu];rfl,h.frz j⟩) info24 (vals_one _) (k _ rfl)
set_option maxHeartbeats 16000000 in
set_option maxRecDepth 100000 in
theorem lrow12 {W : World} {ρ : Rg} {m : Nat → Int} {gb gF : Nat} {ak : Int} (hb0 : ∀ V,Below W.heap.size W V → V.cell? ⟨gb,0,none⟩ = some (.pointer (some ⟨gF,0,none⟩))) (hF : FlatB W gF ρ m) (hm : ∀ k,0 ≤ m k ∧ m k < 256) (ht : Table W) (i0 : 0 ≤ ρ.im) (i2 : ρ.im ≤ 2) (p0 : 0 ≤ ρ.pc) (p1 : ρ.pc < 65536) {o : List S56} {s : Rg} {k : Nat} (hk : k ≤ 12) (H : frow (nx ρ (m (IntKind.u16.wrap (ρ.pc + 1)).toNat)) m k [] [] = some (o,s)) :
  Calls Tryz.prog 44 #[.pointer (some ⟨gF,0,none⟩),.func (.func 45) #[] #[.pointer (some ⟨gb,0,none⟩)],.int .u8 ak] W fun e V => ∃ A c,e = .returned (.slice A o.length c) ∧ Kp gF W V ∧ FlatB V gF s m :=by
 have hE :=Aside0.mk (Env.nil W)
 replace hb0 :=Aside0.mk hb0
 replace hF :=Aside0.mk hF
 replace hm :=Aside0.mk hm
 replace ht :=Aside0.mk ht
 replace i0 :=Aside0.mk i0
 replace i2 :=Aside0.mk i2
 replace p0 :=Aside0.mk p0
 replace p1 :=Aside0.mk p1
 replace H :=Aside0.mk H
 replace hk :=Aside0.mk hk
 go_enter Tryz.func44,Tryz.ntmps44
 go_wp2_with fail
 go_loopg [6,7] k (fun kq v6 v7 w' => ∃ (x : List S56) (y : List Int),Aside0 (frow (nx ρ (m (IntKind.u16.wrap (ρ.pc + 1)).toNat)) m kq x y = some (o,s)) ∧ Aside0 (∀ z ∈ y,0 ≤ z ∧ z < 256) ∧ Aside0 (kq + x.length ≤ 12 ∧ y.length = x.length) ∧ Aside0 (EnvR W w' [] v6 x v7 y))
 case atStart => exact ⟨[],[],H,⟨fun z hz => by cases hz⟩,⟨by have :=hk.out;simpa using this⟩,⟨EnvR.start hE.out⟩⟩
 case round =>
  obtain ⟨x,y,HA,HL,HO,hE⟩ :=hrel
  cases gk with
  | zero => exact absurd HA.out (by simp [frow])
  | succ k1 =>
   obtain ⟨ck,ca,cv,ct,cs,cd,hc,hcase⟩ :=frow_inv HA.out
   obtain ⟨Ao,co,eo,_,_⟩ :=Kd.R_reads hE.out.o
   subst eo
   obtain ⟨Ag,cg,eg,_,_⟩ :=Kd.R_reads hE.out.g
   subst eg
   replace hc :=Aside0.mk hc
   replace hcase :=Aside0.mk hcase
   clear HA
   go_upto_region 4 with (first | (go_at_call 45;go_must (refine (lclos (gl :=y) (A :=Ag) (cp :=cg) (ρ :=ρ) (m :=m) (gb :=gb) (gF :=gF) (fun V' hb' => hb0.out V' (hE.out.env.b.trans (hb'.mono hE.out.env.size))) (hF.out.under hE.out.env.b) (got_all hE.out).2 (got_all hE.out).1 HL.out (env_tab hE.out.env ht.out) i0.out i2.out p0.out p1.out hc.out).mono ?_);rintro e V2 ⟨rfl,hb⟩;replace hE :=Aside0.mk (hE.out.under hb);clear hb;dsimp only [To.val]) | ((with_reducible refine gate_alloc 56 ?_);refine wpList_newR hE.out rfl (reqC 0 0 0 0) 56 (by kernel_rfl) ?_;intro V g hE';replace hE :=Aside0.mk hE';clear hE') | ((with_reducible refine gate_alloc 24 ?_);refine wpList_newR hE.out rfl (zeroRg.vals) 24 (by kernel_rfl) ?_;intro V g hE';replace hE :=Aside0.mk hE';clear hE') | ((with_reducible refine gate_store 56 ?_);(refine wpList_stR hE.out rfl 1 rfl 56 _ _ rfl _ rfl rfl rfl (by kernel_rfl) (reqC_one _ _ _ _) ?_);intro V hE';(try dsimp only [List.set_cons_zero,List.set_cons_succ] at hE');replace hE :=Aside0.mk hE';clear hE') | ((with_reducible refine gate_store 24 ?_);(refine wpList_stR hE.out rfl 0 rfl 24 _ _ rfl _ rfl rfl rfl (by kernel_rfl) (vals_one _) ?_);intro V hE';(try dsimp only [List.set_cons_zero,List.set_cons_succ] at hE');replace hE :=Aside0.mk hE';clear hE'))
   rcases hcase.out with ⟨rfl,rfl,rfl⟩ | ⟨rfl,hk12,a0,a1,H2⟩
   ·clear hcase
    go_wp2_with (first | ((with_reducible refine gate_load 24 ?_);refine wpList_ld hE.out.env rfl 0 rfl 24 _ rfl rfl (ld24 _ _) ?_) | ((with_reducible refine gate_store 24 ?_);refine wpList_stF (hF.out.under hE.out.env.b) rfl _ _ rfl _ rfl rfl ?_;intro V' hV'))
    go_ret
    exact ⟨Ao,co,rfl,(by (try rw [hV']);exact (Kp.of_below hE.out.env.b).trans (Kp.setCells 0 _ _ (Kp.refl gF _))),(by (try rw [hV']);exact (hF.out.under hE.out.env.b).setRegs _)⟩
   ·clear hcase
    replace H2 :=Aside0.mk H2
    have hpa : Aside0 (ca.toNat < 65536) :=⟨by omega⟩
    have q0 :=(hE.out.env.at_ 1 _ _ rfl).2.cell 0 _ rfl
    have hd : ((ck == 1) = true ∧ True) ∨ ((ck == 1) = false ∧ (ck == 2) = true) :=by
     rcases hk12 with e | e
     ·exact .inl ⟨by rw [e];rfl,trivial⟩
     ·exact .inr ⟨by rw [e];rfl,by rw [e];rfl⟩
    clear hk12
    rcases hd with ⟨d1,d2⟩ | ⟨d1,d2⟩
    all_goals (
     go_wp2_with (first | ((with_reducible refine gate_region 13 ?_);go_must ((refine region_sch (fun V => Env W V [_]) [(0,0),(1,0),(3,0),(2,1),(4,0),(5,1)] [6] [6] 7 (by kernel_rfl) rfl rfl (by kernel_rfl) (by intro c a d v w h;cases d <;> exact h) ((hE.out.env.drewN 1).one (i :=1) rfl) ?_);replace hE :=Aside0.mk (hE.out.drewN 1);have hS0 :=hE.out.env.one (i :=1) rfl;(repeat (first | (refine Sch.pureN (v :=?_) (a' :=?_) rfl rfl (by rfl) ?_ ?_ ?_;rotate_left 2;(· (intro w';go_simp <;> (repeat (fail)) <;> with_reducible rfl));(· (simp only [aput] <;> rfl))) | (refine Sch.takeN (v :=?_) (a' :=?_) rfl rfl (by rfl) hS0 ?_ ?_ ?_;rotate_left 2;(· (intro w' hS';have qq :=(hS'.at_ 0 _ _ rfl).2.cell 1 _ rfl;go_simp <;> with_reducible rfl));(· (simp only [aput] <;> rfl))) | (refine Sch.takeN (v :=?_) (a' :=?_) rfl rfl (by rfl) hS0 ?_ ?_ ?_;rotate_left 2;(· (intro w' hS';have qq :=(hF.out.under hS'.b).mem _ hpa.out;go_simp <;> with_reducible rfl));(· (simp only [aput] <;> rfl)))));(refine Sch.tail 6 1 rfl rfl ?_;simp only [List.drop_succ_cons,List.drop_zero,List.drop_nil]))) | ((with_reducible refine gate_load 56 ?_);(try refine gate_guard (by rfl) ?_);(refine wpList_ld hE.out.env rfl 1 rfl 56 _ rfl rfl (ld56 _ _ _ _ _) ?_)) | ((with_reducible refine gate_bsl 38 ?_);refine wpList_bslA rfl (s56c ⟨ck,ca,cv,ct⟩) 56 1 (by kernel_rfl) ?_) | ((with_reducible refine gate_bsl 25 ?_);refine wpList_bslA rfl #[.int .u8 (m ca.toNat)] 5 1 (by kernel_rfl) ?_) | ((with_reducible refine gate_builtin (b :=.append) (xs :=#[.tmp 67,.tmp 69]) rfl ?_);at_builtin;refine wpList_app56 hE.out ⟨ck,ca,cv,ct⟩ rfl (.tmp 67) (.tmp 69) rfl rfl rfl (by have :=HO.out;omega) ?_;intro v1 V3 hE';replace hE :=Aside0.mk hE';clear hE') | ((with_reducible refine gate_builtin (b :=.append) (xs :=#[.tmp 71,.tmp 73]) rfl ?_);at_builtin;refine wpList_app8 hE.out (m ca.toNat) rfl (.tmp 71) (.tmp 73) rfl rfl rfl (by have :=HO.out;omega) ?_;intro v2 V3 hE';replace hE :=Aside0.mk hE';clear hE'))
     go_roundg k1
     case measure => omega
     case rel => exact ⟨_,_,H2,⟨fun z hz => by rcases List.mem_append.1 hz with h | h;exact HL.out z h;rw [List.mem_singleton.1 h];exact hm.out _⟩,⟨by have h3 :=HO.out;refine ⟨by simp;omega,by simp;omega⟩⟩,⟨hE.out.drop 2⟩⟩)
end Go.Proofs.YtnelghpendfdmaaGreatDoor.KRow
/-
 PROVED: Step of a flat machine; the methods of one that nobody made.
-/
namespace Go.Proofs.YtnelghpendfdmaaGreatDoor.KRow
open Go Go.RowKit Go.Proofs.YtnelghpendfdmaaGreatDoorW.PrintWords Go.Proofs.YtnelghpendfdmaaGreatDoorW.PrintLast Go.Proofs.YtnelghpendfdmaaGreatDoorW.PrintMore
open Go.Proofs.YtnelghpendfdmaaGreatDoor.HFun
set_option linter.unusedVariables false
set_option linter.unusedSimpArgs false
theorem run_ld33 {w0 V : World} {bs : List (Nat × Array Value)} (h : Env w0 V bs) (i : Nat) {g : Nat} {q : Option Addr} (hi : bs[i]? = some (g,#[.pointer q])) {ev : Operand → Value} {op : Oper} {x : Operand} (ho : op.op = .load 33 x) (hx : ev x = .pointer (some ⟨g,0,none⟩)) : (execOp ev op).run Tryz.prog V = .ok (.value (.pointer q)) V :=by
 have hc :=(h.at_ i _ _ hi).2.cell 0 _ rfl
 unfold execOp
 simp only [ho,hx]
 simp [go_sem,hc]
set_option maxHeartbeats 16000000 in
set_option maxRecDepth 100000 in
theorem lstep12 {W : World} {ρ : Rg} {m : Nat → Int} {gF : Nat} (hF : FlatB W gF ρ m) (hm : ∀ k,0 ≤ m k ∧ m k < 256) (ht : Table W) (i0 : 0 ≤ ρ.im) (i2 : ρ.im ≤ 2) (p0 : 0 ≤ ρ.pc) (p1 : ρ.pc < 65536) {o : List S56} {s : Rg} {k : Nat} (hk : k ≤ 12) (H : frow (nx ρ (m (IntKind.u16.wrap (ρ.pc + 1)).toNat)) m k [] [] = some (o,s)) :
  Calls Tryz.prog 16 #[.pointer (some ⟨gF,0,none⟩)] W fun e V => ∃ A c,e = .returned (.tuple #[.slice A o.length c,.int .i64 0]) ∧ Kp gF W V ∧ FlatB V gF s m :=by
 have hE :=Aside0.mk (Env.nil W)
 replace hF :=Aside0.mk hF
 replace hm :=Aside0.mk hm
 replace ht :=Aside0.mk ht
 replace i0 :=Aside0.mk i0
 replace i2 :=Aside0.mk i2
 replace p0 :=Aside0.mk p0
 replace p1 :=Aside0.mk p1
 replace H :=Aside0.mk H
 replace hk :=Aside0.mk hk
 have hmf : ∀ (fn : Fn) (first cap : Array Value) (w : World),(Instr.makeFunc fn first cap).run Tryz.prog w = .ok (.func fn first cap) w :=fun _ _ _ _ => rfl
 go_enter Tryz.func16,Tryz.ntmps16
 go_wp2_with (first | ((with_reducible refine gate_box 33 ?_);refine wpList_new hE.out rfl (#[.pointer (some ⟨gF,0,none⟩)]) 33 rfl ?_;intro V gb hE';replace hE :=Aside0.mk hE';clear hE') | ((with_reducible refine gate_load 33 ?_);refine wpList_val' rfl (.pointer (some ⟨gF,0,none⟩)) (run_ld33 hE.out 0 rfl rfl rfl) ?_) | (go_at_call 42;refine (lok (hF.out.under hE.out.b)).mono ?_;rintro e V2 ⟨rfl,rfl⟩) | (go_at_call 44;go_must (refine (lrow12 (gb :=gb) (gF :=gF) (fun V' hb' => (((hE.out.under hb').at_ 0 _ _ rfl).2.cell 0 _ rfl)) (hF.out.under hE.out.b) hm.out (env_tab hE.out ht.out) i0.out i2.out p0.out p1.out hk.out H.out).mono ?_);rintro e V2 ⟨Ao,co,rfl,hkp,hF2⟩))
 go_ret2
 exact ⟨Ao,co,rfl,(Kp.of_below hE.out.b).trans hkp,hF2⟩
end Go.Proofs.YtnelghpendfdmaaGreatDoor.KRow
