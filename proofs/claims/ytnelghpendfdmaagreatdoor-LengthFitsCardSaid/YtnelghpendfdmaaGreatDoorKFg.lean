/-
 PROVED: the contract of (*length.Flat).row and of Step.
-/
import Derived.Test.YtnelghpendfdmaaGreatDoorKFd
namespace Go.Proofs.YtnelghpendfdmaaGreatDoor.KRow
set_option maxRecDepth 100000
set_option maxHeartbeats 16000000
open Go Go.RowKit Go.Proofs.YtnelghpendfdmaaGreatDoorW.PrintWords Go.Proofs.YtnelghpendfdmaaGreatDoorW.PrintLast Go.Proofs.YtnelghpendfdmaaGreatDoorW.PrintMore
open Go.Proofs.YtnelghpendfdmaaGreatDoor.HFun
set_option linter.unusedVariables false
set_option linter.unusedSimpArgs false
theorem lrowG {W : World} {ρ : Rg} {m0 : Nat → Int} {gb gF : Nat} {ak : Int} (hb0 : ∀ V,Kp gF W V → V.cell? ⟨gb,0,none⟩ = some (.pointer (some ⟨gF,0,none⟩))) (hF : FlatB W gF ρ m0) (hg0 : gF ≠ 0) (ht : Table W) (i0 : 0 ≤ ρ.im) (i2 : ρ.im ≤ 2) (p0 : 0 ≤ ρ.pc) (p1 : ρ.pc < 65536) {o : List S56} {s : Rg} {mo : Nat → Int} {k : Nat} (hk : k ≤ 12) (H : frw (nx ρ) (IntKind.u16.wrap (ρ.pc + 1)).toNat k m0 [] [] = some (o,s,mo)) :
  Calls Tryz.prog 44 #[.pointer (some ⟨gF,0,none⟩),.func (.func 45) #[] #[.pointer (some ⟨gb,0,none⟩)],.int .u8 ak] W fun e V => ∃ A c,e = .returned (.slice A o.length c) ∧ Kp gF W V ∧ FlatB V gF s mo ∧ (o.length ≤ c ∧ o.length ≤ 12) ∧ k56.C V A o.length o :=by
 have hE :=Aside0.mk (Env.nil W)
 replace hb0 :=Aside0.mk hb0
 replace hF :=Aside0.mk hF
 replace hg0 :=Aside0.mk hg0
 replace ht :=Aside0.mk ht
 replace i0 :=Aside0.mk i0
 replace i2 :=Aside0.mk i2
 replace p0 :=Aside0.mk p0
 replace p1 :=Aside0.mk p1
 replace H :=Aside0.mk H
 replace hk :=Aside0.mk hk
 go_enter Tryz.func44,Tryz.ntmps44
 go_wp2_with fail
 go_loopg [6,7] k (fun kq v6 v7 w' => ∃ (m : Nat → Int) (X : World) (x : List S56) (y : List Int),Aside0 (frw (nx ρ) (IntKind.u16.wrap (ρ.pc + 1)).toNat kq m x y = some (o,s,mo)) ∧ Aside0 (∀ z ∈ y,0 ≤ z ∧ z < 256) ∧ Aside0 (kq + x.length ≤ 12 ∧ y.length = x.length) ∧ Aside0 (EnvR X w' [] v6 x v7 y) ∧ Aside0 (Kp gF W X ∧ FlatB X gF ρ m))
 case atStart => exact ⟨m0,W,[],[],H,⟨fun z hz => by cases hz⟩,⟨by have :=hk.out;simpa using this⟩,⟨EnvR.start hE.out⟩,⟨Kp.refl _ _,hF.out⟩⟩
 case round =>
  obtain ⟨m,X,x,y,HA,HL,HO,hE,hX⟩ :=hrel
  cases gk with
  | zero => exact absurd HA.out (by simp [frw])
  | succ k1 =>
   obtain ⟨ck,ca,cv,ct,cs,cd,hc,hcase⟩ :=frw_inv HA.out
   obtain ⟨Ao,co,eo,_,_⟩ :=Kd.R_reads hE.out.o
   subst eo
   obtain ⟨Ag,cg,eg,_,_⟩ :=Kd.R_reads hE.out.g
   subst eg
   replace hc :=Aside0.mk hc
   replace hcase :=Aside0.mk hcase
   clear HA
   go_upto_region 4 with (first | (go_at_call 45;go_must (refine (lclos (gl :=y) (A :=Ag) (cp :=cg) (ρ :=ρ) (m :=m) (gb :=gb) (gF :=gF) (fun V' hb' => hb0.out V' (hX.out.1.trans ((Kp.of_below hE.out.env.b).trans (Kp.of_below hb')))) (hX.out.2.under hE.out.env.b) (got_all hE.out).2 (got_all hE.out).1 HL.out (ht.out.kp (hX.out.1.trans (Kp.of_below hE.out.env.b)) hg0.out) i0.out i2.out p0.out p1.out hc.out).mono ?_);rintro e V2 ⟨rfl,hb⟩;replace hE :=Aside0.mk (hE.out.under hb);clear hb;dsimp only [To.val]) | ((with_reducible refine gate_alloc 56 ?_);refine wpList_newR hE.out rfl (reqC 0 0 0 0) 56 (by kernel_rfl) ?_;intro V g hE';replace hE :=Aside0.mk hE';clear hE') | ((with_reducible refine gate_alloc 24 ?_);refine wpList_newR hE.out rfl (zeroRg.vals) 24 (by kernel_rfl) ?_;intro V g hE';replace hE :=Aside0.mk hE';clear hE') | ((with_reducible refine gate_store 56 ?_);(refine wpList_stR hE.out rfl 1 rfl 56 _ _ rfl _ rfl rfl rfl (by kernel_rfl) (reqC_one _ _ _ _) ?_);intro V hE';(try dsimp only [List.set_cons_zero,List.set_cons_succ] at hE');replace hE :=Aside0.mk hE';clear hE') | ((with_reducible refine gate_store 24 ?_);(refine wpList_stR hE.out rfl 0 rfl 24 _ _ rfl _ rfl rfl rfl (by kernel_rfl) (zcb _) ?_);intro V hE';(try dsimp only [List.set_cons_zero,List.set_cons_succ] at hE');replace hE :=Aside0.mk hE';clear hE'))
   have hcase2 :=hcase.out
   clear hcase
   rcases hcase2 with ⟨rfl,rfl,rfl,rfl⟩ | ⟨rfl,m',z,⟨rfl,hu,rfl,rfl⟩ | ⟨hk12,hu,hzr,rfl,rfl⟩ | ⟨rfl,rfl,rfl⟩ | ⟨hk56,rfl,rfl⟩,H2⟩
   ·go_wp2_with (first | ((with_reducible refine gate_load 24 ?_);refine zaf hE.out.env rfl 0 rfl 24 _ rfl rfl (ld24 _ _) ?_) | ((with_reducible refine gate_store 24 ?_);refine wpList_stF (hX.out.2.under hE.out.env.b) rfl _ _ rfl _ rfl rfl ?_;intro V' hV'))
    go_ret
    subst hV'
    have hlt :=hX.out.2.lt
    have hr :=R_rd ((hE.out.drop 2).upd (Upd.cells gF cs.vals.toList 0) hlt).o
    have hk3 : x.length ≤ 12 :=by have :=HO.out;omega
    exact ⟨Ao,co,rfl,Kp.setCells 0 _ _ (hX.out.1.trans (Kp.of_below hE.out.env.b)),(hX.out.2.under hE.out.env.b).setRegs _,⟨hr.1,hk3⟩,hr.2⟩
   ·replace H2 :=Aside0.mk H2
    have hpa : Aside0 (ca.toNat < 65536) :=⟨by have :=hu.2;omega⟩
    have hpb : ((ca.toNat : Nat) : Int) = ca :=Int.toNat_of_nonneg hu.1
    replace hpb :=Aside0.mk hpb
    have hu0 :=hu.1
    have hu1 :=hu.2
    clear hu
    have q0 :=(hE.out.env.at_ 1 _ _ rfl).2.cell 0 _ rfl
    go_upto_region 20 with (first | ((with_reducible refine gate_region 15 ?_);go_must ((refine zak (fun V => Env X V [_]) [(0,0),(1,0),(3,0),(5,0),(2,1),(4,1)] [6,7] [6,7] 8 (by kernel_rfl) rfl rfl (by kernel_rfl) (by intro c a d v w h;cases d <;> exact h) ((hE.out.env.drewN 1).one (i :=1) rfl) ?_);replace hE :=Aside0.mk (hE.out.drewN 1);have hS0 :=hE.out.env.one (i :=1) rfl;(repeat (first | (refine Sch.pureN (v :=?_) (a' :=?_) rfl rfl (by rfl) ?_ ?_ ?_;rotate_left 2;(· (intro w';go_simp <;> (repeat (fail)) <;> with_reducible rfl));(· (simp only [aput] <;> rfl))) | (refine Sch.takeN (v :=?_) (a' :=?_) rfl rfl (by rfl) hS0 ?_ ?_ ?_;rotate_left 2;(· (intro w' hS';have qq :=(hS'.at_ 0 _ _ rfl).2.cell 1 _ rfl;go_simp <;> with_reducible rfl));(· (simp only [aput] <;> rfl))) | (refine Sch.takeN (v :=?_) (a' :=?_) rfl rfl (by rfl) hS0 ?_ ?_ ?_;rotate_left 2;(· (intro w' hS';have qq :=(hS'.at_ 0 _ _ rfl).2.cell 2 _ rfl;go_simp <;> with_reducible rfl));(· (simp only [aput] <;> rfl)))));(refine Sch.tail 6 2 rfl rfl ?_;simp only [List.drop_succ_cons,List.drop_zero,List.drop_nil]))) | ((with_reducible refine gate_store 5 ?_);refine wpList_stM (hX.out.2.under hE.out.env.b) rfl _ _ rfl ca.toNat cv (by go_simp;(try (repeat (fail)))) rfl hpa.out ?_;intro V' hV'))
    have hlt :=hX.out.2.lt
    have hE2 :=hE.out.upd (Upd.cell gF (24 + ca.toNat) (.int .u8 cv)) hlt
    rw [← hV'] at hE2
    replace hE :=Aside0.mk hE2
    have hX2 : Kp gF W (X.setCell ⟨gF,24 + ca.toNat,none⟩ (.int .u8 cv)) ∧ FlatB (X.setCell ⟨gF,24 + ca.toNat,none⟩ (.int .u8 cv)) gF ρ (wrM m ca.toNat cv) :=⟨hX.out.1.setCell _ _,hX.out.2.setMem hpa.out cv⟩
    replace hX :=Aside0.mk hX2
    clear hX2
    clear hE2 hV'
    go_wp2_with (first | ((with_reducible refine gate_load 56 ?_);(try refine gate_guard (by rfl) ?_);(refine zaf hE.out.env rfl 1 rfl 56 _ rfl rfl (ld56 _ _ _ _ _) ?_)) | ((with_reducible refine gate_bsl 38 ?_);refine zbj rfl (s56c ⟨3,ca,cv,ct⟩) 56 1 (by kernel_rfl) ?_) | ((with_reducible refine gate_bsl 25 ?_);refine zbj rfl #[.int .u8 (0)] 5 1 (by kernel_rfl) ?_) | ((with_reducible refine gate_builtin (b :=.append) (xs :=#[.tmp 67,.tmp 69]) rfl ?_);at_builtin;refine wpList_app56 hE.out ⟨3,ca,cv,ct⟩ rfl (.tmp 67) (.tmp 69) rfl rfl rfl (by have :=HO.out;omega) ?_;intro v1 V3 hE';replace hE :=Aside0.mk hE';clear hE') | ((with_reducible refine gate_builtin (b :=.append) (xs :=#[.tmp 71,.tmp 73]) rfl ?_);at_builtin;refine wpList_app8 hE.out (0) rfl (.tmp 71) (.tmp 73) rfl rfl rfl (by have :=HO.out;omega) ?_;intro v2 V3 hE';replace hE :=Aside0.mk hE';clear hE'))
    go_roundg k1
    case measure => omega
    case rel => exact ⟨_,_,_,_,H2,⟨fun z hz => by rcases List.mem_append.1 hz with h | h;exact HL.out z h;rw [List.mem_singleton.1 h];exact by decide⟩,⟨by have h3 :=HO.out;refine ⟨by simp;omega,by simp;omega⟩⟩,⟨hE.out.drop 2⟩,hX⟩
   ·replace H2 :=Aside0.mk H2
    have hpa : Aside0 (ca.toNat < 65536) :=⟨by have :=hu.2;omega⟩
    have hu0 :=hu.1
    have hu1 :=hu.2
    clear hu
    replace hzr :=Aside0.mk hzr
    have q0 :=(hE.out.env.at_ 1 _ _ rfl).2.cell 0 _ rfl
    have hd : ((ck == 1) = true ∧ True) ∨ ((ck == 1) = false ∧ (ck == 2) = true) :=by
     rcases hk12 with e | e
     ·exact .inl ⟨by rw [e];rfl,trivial⟩
     ·exact .inr ⟨by rw [e];rfl,by rw [e];rfl⟩
    clear hk12
    rcases hd with ⟨d1,d2⟩ | ⟨d1,d2⟩
    all_goals (
     go_wp2_with (first | ((with_reducible refine gate_region 13 ?_);go_must ((refine zak (fun V => Env X V [_]) [(0,0),(1,0),(3,0),(2,1),(4,0),(5,1)] [6] [6] 7 (by kernel_rfl) rfl rfl (by kernel_rfl) (by intro c a d v w h;cases d <;> exact h) ((hE.out.env.drewN 1).one (i :=1) rfl) ?_);replace hE :=Aside0.mk (hE.out.drewN 1);have hS0 :=hE.out.env.one (i :=1) rfl;(repeat (first | (refine Sch.pureN (v :=?_) (a' :=?_) rfl rfl (by rfl) ?_ ?_ ?_;rotate_left 2;(· (intro w';go_simp <;> (repeat (fail)) <;> with_reducible rfl));(· (simp only [aput] <;> rfl))) | (refine Sch.takeN (v :=?_) (a' :=?_) rfl rfl (by rfl) hS0 ?_ ?_ ?_;rotate_left 2;(· (intro w' hS';have qq :=(hS'.at_ 0 _ _ rfl).2.cell 1 _ rfl;go_simp <;> with_reducible rfl));(· (simp only [aput] <;> rfl))) | (refine Sch.takeN (v :=?_) (a' :=?_) rfl rfl (by rfl) hS0 ?_ ?_ ?_;rotate_left 2;(· (intro w' hS';have qq :=(hX.out.2.under hS'.b).mem _ hpa.out;go_simp <;> with_reducible rfl));(· (simp only [aput] <;> rfl)))));(refine Sch.tail 6 1 rfl rfl ?_;simp only [List.drop_succ_cons,List.drop_zero,List.drop_nil]))) | ((with_reducible refine gate_load 56 ?_);(try refine gate_guard (by rfl) ?_);(refine zaf hE.out.env rfl 1 rfl 56 _ rfl rfl (ld56 _ _ _ _ _) ?_)) | ((with_reducible refine gate_bsl 38 ?_);refine zbj rfl (s56c ⟨ck,ca,cv,ct⟩) 56 1 (by kernel_rfl) ?_) | ((with_reducible refine gate_bsl 25 ?_);refine zbj rfl #[.int .u8 (m' ca.toNat)] 5 1 (by kernel_rfl) ?_) | ((with_reducible refine gate_builtin (b :=.append) (xs :=#[.tmp 67,.tmp 69]) rfl ?_);at_builtin;refine wpList_app56 hE.out ⟨ck,ca,cv,ct⟩ rfl (.tmp 67) (.tmp 69) rfl rfl rfl (by have :=HO.out;omega) ?_;intro v1 V3 hE';replace hE :=Aside0.mk hE';clear hE') | ((with_reducible refine gate_builtin (b :=.append) (xs :=#[.tmp 71,.tmp 73]) rfl ?_);at_builtin;refine wpList_app8 hE.out (m' ca.toNat) rfl (.tmp 71) (.tmp 73) rfl rfl rfl (by have :=HO.out;omega) ?_;intro v2 V3 hE';replace hE :=Aside0.mk hE';clear hE'))
     go_roundg k1
     case measure => omega
     case rel => exact ⟨_,_,_,_,H2,⟨fun z hz => by rcases List.mem_append.1 hz with h | h;exact HL.out z h;rw [List.mem_singleton.1 h];exact hzr.out⟩,⟨by have h3 :=HO.out;refine ⟨by simp;omega,by simp;omega⟩⟩,⟨hE.out.drop 2⟩,hX⟩)
   ·replace H2 :=Aside0.mk H2
    have q0 :=(hE.out.env.at_ 1 _ _ rfl).2.cell 0 _ rfl
    have q1 :=(hE.out.env.at_ 1 _ _ rfl).2.cell 1 _ rfl
    go_upto_region 20 with fail
    clear q0 q1
    go_wp2_with (first | ((with_reducible refine gate_load 56 ?_);(try refine gate_guard (by rfl) ?_);(refine zaf hE.out.env rfl 1 rfl 56 _ rfl rfl (ld56 _ _ _ _ _) ?_)) | ((with_reducible refine gate_bsl 38 ?_);refine zbj rfl (s56c ⟨4,ca,cv,ct⟩) 56 1 (by kernel_rfl) ?_) | ((with_reducible refine gate_bsl 25 ?_);refine zbj rfl #[.int .u8 (inV ca)] 5 1 (by kernel_rfl) ?_) | ((with_reducible refine gate_builtin (b :=.append) (xs :=#[.tmp 67,.tmp 69]) rfl ?_);at_builtin;refine wpList_app56 hE.out ⟨4,ca,cv,ct⟩ rfl (.tmp 67) (.tmp 69) rfl rfl rfl (by have :=HO.out;omega) ?_;intro v1 V3 hE';replace hE :=Aside0.mk hE';clear hE') | ((with_reducible refine gate_builtin (b :=.append) (xs :=#[.tmp 71,.tmp 73]) rfl ?_);at_builtin;refine wpList_app8 hE.out (inV ca) rfl (.tmp 71) (.tmp 73) rfl rfl rfl (by have :=HO.out;omega) ?_;intro v2 V3 hE';replace hE :=Aside0.mk hE';clear hE'))
    go_roundg k1
    case measure => omega
    case rel => exact ⟨_,_,_,_,H2,⟨fun z hz => by rcases List.mem_append.1 hz with h | h;exact HL.out z h;rw [List.mem_singleton.1 h];exact inV_rng ca⟩,⟨by have h3 :=HO.out;refine ⟨by simp;omega,by simp;omega⟩⟩,⟨hE.out.drop 2⟩,hX⟩
   ·replace H2 :=Aside0.mk H2
    have q0 :=(hE.out.env.at_ 1 _ _ rfl).2.cell 0 _ rfl
    have d1 : (ck == 1) = false :=beq_eq_false_iff_ne.2 (by omega)
    have d2 : (ck == 2) = false :=beq_eq_false_iff_ne.2 (by omega)
    have d3 : (ck == 3) = false :=beq_eq_false_iff_ne.2 (by omega)
    have d4 : (ck == 4) = false :=beq_eq_false_iff_ne.2 (by omega)
    have d5 : (ck == 7) = false :=beq_eq_false_iff_ne.2 (by omega)
    clear hk56
    go_wp2_with (first | ((with_reducible refine gate_load 56 ?_);(try refine gate_guard (by rfl) ?_);(refine zaf hE.out.env rfl 1 rfl 56 _ rfl rfl (ld56 _ _ _ _ _) ?_)) | ((with_reducible refine gate_bsl 38 ?_);refine zbj rfl (s56c ⟨ck,ca,cv,ct⟩) 56 1 (by kernel_rfl) ?_) | ((with_reducible refine gate_bsl 25 ?_);refine zbj rfl #[.int .u8 (0)] 5 1 (by kernel_rfl) ?_) | ((with_reducible refine gate_builtin (b :=.append) (xs :=#[.tmp 67,.tmp 69]) rfl ?_);at_builtin;refine wpList_app56 hE.out ⟨ck,ca,cv,ct⟩ rfl (.tmp 67) (.tmp 69) rfl rfl rfl (by have :=HO.out;omega) ?_;intro v1 V3 hE';replace hE :=Aside0.mk hE';clear hE') | ((with_reducible refine gate_builtin (b :=.append) (xs :=#[.tmp 71,.tmp 73]) rfl ?_);at_builtin;refine wpList_app8 hE.out (0) rfl (.tmp 71) (.tmp 73) rfl rfl rfl (by have :=HO.out;omega) ?_;intro v2 V3 hE';replace hE :=Aside0.mk hE';clear hE'))
    go_roundg k1
    case measure => omega
    case rel => exact ⟨_,_,_,_,H2,⟨fun z hz => by rcases List.mem_append.1 hz with h | h;exact HL.out z h;rw [List.mem_singleton.1 h];exact by decide⟩,⟨by have h3 :=HO.out;refine ⟨by simp;omega,by simp;omega⟩⟩,⟨hE.out.drop 2⟩,hX⟩
theorem lstepG {W : World} {ρ : Rg} {m0 : Nat → Int} {gF : Nat} (hF : FlatB W gF ρ m0) (hg0 : gF ≠ 0) (ht : Table W) (i0 : 0 ≤ ρ.im) (i2 : ρ.im ≤ 2) (p0 : 0 ≤ ρ.pc) (p1 : ρ.pc < 65536) {o : List S56} {s : Rg} {mo : Nat → Int} {k : Nat} (hk : k ≤ 12) (H : frw (nx ρ) (IntKind.u16.wrap (ρ.pc + 1)).toNat k m0 [] [] = some (o,s,mo)) :
  Calls Tryz.prog 16 #[.pointer (some ⟨gF,0,none⟩)] W fun e V => ∃ A c,e = .returned (.tuple #[.slice A o.length c,.int .i64 0]) ∧ Kp gF W V ∧ FlatB V gF s mo ∧ (o.length ≤ c ∧ o.length ≤ 12) ∧ k56.C V A o.length o :=by
 have hE :=Aside0.mk (Env.nil W)
 replace hF :=Aside0.mk hF
 replace hg0 :=Aside0.mk hg0
 replace ht :=Aside0.mk ht
 replace i0 :=Aside0.mk i0
 replace i2 :=Aside0.mk i2
 replace p0 :=Aside0.mk p0
 replace p1 :=Aside0.mk p1
 replace H :=Aside0.mk H
 replace hk :=Aside0.mk hk
 have hmf : ∀ (fn : Fn) (first cap : Array Value) (w : World),(Instr.makeFunc fn first cap).run Tryz.prog w = .ok (.func fn first cap) w :=fun _ _ _ _ => rfl
 go_enter Tryz.func16,Tryz.ntmps16
 go_wp2_with (first | ((with_reducible refine gate_box 33 ?_);refine zab hE.out rfl (#[.pointer (some ⟨gF,0,none⟩)]) 33 rfl ?_;intro V gb hE';replace hE :=Aside0.mk hE';clear hE') | ((with_reducible refine gate_load 33 ?_);refine zap rfl (.pointer (some ⟨gF,0,none⟩)) (run_ld33 hE.out 0 rfl rfl rfl) ?_) | (go_at_call 42;refine (lok (hF.out.under hE.out.b)).mono ?_;rintro e V2 ⟨rfl,rfl⟩) | (go_at_call 44;go_must (refine (lrowG (gb :=gb) (gF :=gF) (fun V' hb' => (((hE.out.at_ 0 _ _ rfl).2.same hb'.size (hb'.block _ (hE.out.at_ 0 _ _ rfl).2.lt (by have h1 :=(hE.out.at_ 0 _ _ rfl).1;have h2 :=hF.out.lt;omega))).cell 0 _ rfl)) (hF.out.under hE.out.b) hg0.out (env_tab hE.out ht.out) i0.out i2.out p0.out p1.out hk.out H.out).mono ?_);rintro e V2 ⟨Ao,co,rfl,hkp,hF2,hlo,hC⟩))
 go_ret2
 exact ⟨Ao,co,rfl,(Kp.of_below hE.out.b).trans hkp,hF2,hlo,hC⟩
end Go.Proofs.YtnelghpendfdmaaGreatDoor.KRow
