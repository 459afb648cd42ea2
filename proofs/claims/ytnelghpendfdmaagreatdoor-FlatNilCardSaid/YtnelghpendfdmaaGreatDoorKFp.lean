import Derived.Laws.Tables
import Derived.Test.YtnelghpendfdmaaGreatDoorKOi
import Derived.Test.YtnelghpendfdmaaGreatDoorHRch
namespace Go.Proofs.YtnelghpendfdmaaGreatDoor.KRow
open Go Go.RowKit Go.Proofs.YtnelghpendfdmaaGreatDoorW.PrintWords Go.Proofs.YtnelghpendfdmaaGreatDoorW.PrintLast Go.Proofs.YtnelghpendfdmaaGreatDoorW.PrintMore
open Go.Proofs.YtnelghpendfdmaaGreatDoor.HFun
set_option linter.unusedVariables false
def isZ : Value → Bool
 | .int .u8 n => n == 0
 | _ => false
def chkZ : Nat → List Value → Bool
 | 0,[.bool b] => !b
 | n + 1,v :: l => isZ v && chkZ n l
 | _,_ => false
noncomputable def zl80 : List Value :=match Tryz.t80.zero with | some (.agg a) => a.toList | _ => []
set_option maxRecDepth 1000000 in
theorem zl80_chk : chkZ 65536 (zl80.drop 24) = true :=by decide +kernel
theorem chkZ_spec : ∀ (n : Nat) (l : List Value),chkZ n l = true → l.length = n + 1 ∧ (∀ k,k < n → l[k]? = some (.int .u8 0)) ∧ l[n]? = some (.bool false) :=by
 intro n
 induction n with
 | zero =>
  intro l h
  match l,h with
  | [.bool b],h =>
   simp [chkZ] at h
   subst h
   exact ⟨rfl,fun k hk => absurd hk (by omega),rfl⟩
 | succ n ih =>
  intro l h
  match l,h with
  | v :: l,h =>
   simp only [chkZ,Bool.and_eq_true] at h
   obtain ⟨h1,h2,h3⟩ :=ih l h.2
   have hv : v = .int .u8 0 :=by
    have h4 :=h.1
    unfold isZ at h4
    split at h4
    ·simp at h4;subst h4;rfl
    ·cases h4
   refine ⟨by simp [h1],fun k hk => ?_,by simpa using h3⟩
   match k with
   | 0 => simp [hv]
   | k + 1 => simpa using h2 k (by omega)
theorem zl80_len : zl80.length = 65561 :=by
 have :=(chkZ_spec _ _ zl80_chk).1
 rw [List.length_drop] at this
 omega
theorem zl80_get (k : Nat) (hk : k < 65536) : zl80[24 + k]? = some (.int .u8 0) :=by
 have :=(chkZ_spec _ _ zl80_chk).2.1 k hk
 rwa [List.getElem?_drop] at this
theorem info80 : Tryz.prog.info? 80 = some Tryz.t80 :=by kernel_rfl
theorem zero80 : Tryz.t80.zero = some (.agg zl80.toArray) :=by kernel_rfl
theorem foldl_set : ∀ (vs : List Value) (o : Nat) (cs : Array Value) (k : Nat),((vs.zipIdx o).foldl (fun (cs : Array Value) (x : Value × Nat) => cs.setIfInBounds x.2 x.1) cs)[k]? = if o ≤ k ∧ k < o + vs.length ∧ k < cs.size then vs[k - o]? else cs[k]? :=by
 intro vs
 induction vs with
 | nil => intro o cs k;simp;omega
 | cons v r ih =>
  intro o cs k
  simp only [List.zipIdx_cons,List.foldl_cons]
  rw [ih]
  simp only [Array.size_setIfInBounds,List.length_cons]
  by_cases h1 : k = o
  ·subst h1
   rw [if_neg (by omega)]
   by_cases h2 : k < cs.size
   ·rw [if_pos ⟨Nat.le_refl _,by omega,h2⟩]
    simp [h2]
   ·rw [if_neg (by omega)]
    rw [Array.getElem?_eq_none (by simpa using h2),Array.getElem?_eq_none (by omega)]
  ·by_cases h2 : o + 1 ≤ k ∧ k < o + 1 + r.length ∧ k < cs.size
   ·rw [if_pos h2,if_pos (by omega)]
    have : k - o = (k - (o + 1)) + 1 :=by omega
    rw [this]
    simp
   ·rw [if_neg h2,if_neg (by omega)]
    exact Array.getElem?_setIfInBounds_ne (Ne.symm h1)
end Go.Proofs.YtnelghpendfdmaaGreatDoor.KRow
namespace Go.Proofs.YtnelghpendfdmaaGreatDoor.KRow
open Go Go.RowKit Go.Proofs.YtnelghpendfdmaaGreatDoorW.PrintWords Go.Proofs.YtnelghpendfdmaaGreatDoorW.PrintLast Go.Proofs.YtnelghpendfdmaaGreatDoorW.PrintMore
open Go.Proofs.YtnelghpendfdmaaGreatDoor.HFun
set_option linter.unusedVariables false
noncomputable def c80 (ρ : Rg) : Array Value :=((ρ.vals.toList.zipIdx.foldl (fun (cs : Array Value) (x : Value × Nat) => cs.setIfInBounds x.2 x.1) zl80.toArray)).setIfInBounds 65560 (.bool true)
theorem c80_size (ρ : Rg) : (c80 ρ).size = 65561 :=by
 have h : ∀ (l : List (Value × Nat)) (cs : Array Value),(l.foldl (fun (cs : Array Value) (x : Value × Nat) => cs.setIfInBounds x.2 x.1) cs).size = cs.size :=by
  intro l
  induction l with
  | nil => intro cs;rfl
  | cons x r ih => intro cs;simp only [List.foldl_cons];rw [ih];simp
 unfold c80
 rw [Array.size_setIfInBounds,h]
 simp [zl80_len]
theorem c80_get (ρ : Rg) (k : Nat) (hk : k ≠ 65560) : (c80 ρ)[k]? = if k < 24 then ρ.vals.toList[k]? else zl80[k]? :=by
 unfold c80
 rw [Array.getElem?_setIfInBounds_ne (Ne.symm hk),foldl_set]
 have h24 : ρ.vals.toList.length = 24 :=rfl
 rw [h24]
 by_cases h : k < 24
 ·rw [if_pos ⟨Nat.zero_le _,by omega,by simp [zl80_len];omega⟩,if_pos h,Nat.sub_zero]
 ·rw [if_neg (by omega),if_neg h]
  simp
theorem c80_made (ρ : Rg) : (c80 ρ)[65560]? = some (.bool true) :=by
 have h :=c80_size ρ
 unfold c80 at h ⊢
 rw [Array.size_setIfInBounds] at h
 simp [h]
structure FlatB (V : World) (g : Nat) (ρ : Rg) (m : Nat → Int) : Prop where
 lt : g < V.heap.size
 regs : ∀ k v,ρ.vals.toList[k]? = some v → V.cell? ⟨g,k,none⟩ = some v
 mem : ∀ k,k < 65536 → V.cell? ⟨g,24 + k,none⟩ = some (.int .u8 (m k))
 made : V.cell? ⟨g,65560,none⟩ = some (.bool true)
 frz : ∀ k,V.frozen? ⟨g,k,none⟩ = false
theorem flat_new (V : World) (ρ : Rg) (ty : TypeId) : FlatB (V.alloc (.cells (c80 ρ) ty)) V.heap.size ρ (fun _ => 0) :=by
 have hB :=BlkAt.box V (c80 ρ) ty
 have hc : ∀ k v,(c80 ρ)[k]? = some v → (V.alloc (.cells (c80 ρ) ty)).cell? ⟨V.heap.size,k,none⟩ = some v :=fun k v h => hB.cell k v (by simpa using h)
 refine ⟨hB.lt,fun k v hk => hc k v ?_,fun k hk => hc _ _ ?_,hc _ _ (c80_made ρ),hB.frz⟩
 ·have h24 : ρ.vals.toList.length = 24 :=rfl
  have hlt :=(List.getElem?_eq_some_iff.1 hk).1
  rw [h24] at hlt
  rw [c80_get ρ k (by omega),if_pos hlt]
  exact hk
 ·rw [c80_get ρ _ (by omega),if_neg (by omega)]
  exact zl80_get k hk
theorem built80 (ρ : Rg) : Tryz.prog.built 80 [(0,.agg ρ.vals),(2,.bool true)] = some (c80 ρ) :=by
 unfold Program.built
 rw [info80,Tryz.underlying80]
 simp only [zero80]
 have hp : (#[{ name := "r",type :=24,offset :=0,embedded :=false,tag := "",pkgPath := "pendulum/length",byteOffset :=0 },{ name := "m",type :=78,offset :=24,embedded :=false,tag := "",pkgPath := "pendulum/length",byteOffset :=48 },{ name := "made",type :=4,offset :=65560,embedded :=false,tag := "",pkgPath := "pendulum/length",byteOffset :=65584 }] : Array Field).toList.mapM (fun f => (Tryz.prog.info? f.type).map fun i => (f.offset,i.size)) = some [(0,24),(24,65536),(65560,1)] :=by kernel_rfl
 rw [hp]
 have h0 : (Value.agg zl80.toArray).cells = zl80.toArray :=rfl
 have h1 : (Value.agg ρ.vals).cells = ρ.vals :=rfl
 have h2 : (Value.bool true).cells = #[.bool true] :=rfl
 have hs : ρ.vals.size = 24 :=rfl
 have hsz : ∀ (l : List (Value × Nat)) (cs : Array Value),(l.foldl (fun (cs : Array Value) (x : Value × Nat) => cs.setIfInBounds x.2 x.1) cs).size = cs.size :=by
  intro l
  induction l with
  | nil => intro cs;rfl
  | cons x r ih => intro cs;simp only [List.foldl_cons];rw [ih];simp
 have hf : (ρ.vals.zipIdx.foldl (fun cs x => cs.setIfInBounds (0 + x.2) x.1) zl80.toArray) = ρ.vals.toList.zipIdx.foldl (fun (cs : Array Value) (x : Value × Nat) => cs.setIfInBounds x.2 x.1) zl80.toArray :=by
  rw [← Array.foldl_toList,Array.toList_zipIdx]
  simp only [Nat.zero_add]
 simp only [h0,Instr.fill,List.getElem?_toArray,List.getElem?_cons_zero,List.getElem?_cons_succ,h1,h2,hs]
 rw [if_neg (by simp [zl80_len]),hf]
 rw [if_neg (by rw [hsz];simp [zl80_len])]
 have hg : ∀ X : Array Value,(#[Value.bool true].zipIdx.foldl (fun cs x => cs.setIfInBounds (65560 + x.2) x.1) X) = X.setIfInBounds 65560 (.bool true) :=fun X => rfl
 rw [hg,c80]
theorem run_build80 {ev : Operand → Value} {op : Oper} {x y : Operand} {ρ : Rg} (ho : op.op = .build 80 #[(0,x),(2,y)]) (hx : ev x = .agg ρ.vals) (hy : ev y = .bool true) (V : World) :
  (execOp ev op).run Tryz.prog V = .ok (.value (.agg (c80 ρ))) V :=by
 have h :=run_build (P :=Tryz.prog) V 80 #[(0,.agg ρ.vals),(2,.bool true)] (c80 ρ) (built80 ρ)
 unfold execOp
 simp only [ho]
 simp [hx,hy,h,Result.andThen]
end Go.Proofs.YtnelghpendfdmaaGreatDoor.KRow
namespace Go.Proofs.YtnelghpendfdmaaGreatDoor.KRow
open Go Go.RowKit Go.Proofs.YtnelghpendfdmaaGreatDoorW.PrintWords Go.Proofs.YtnelghpendfdmaaGreatDoorW.PrintLast Go.Proofs.YtnelghpendfdmaaGreatDoorW.PrintMore
open Go.Proofs.YtnelghpendfdmaaGreatDoor.HFun
set_option linter.unusedVariables false
theorem FlatB.same {V V' : World} {g : Nat} {ρ : Rg} {m : Nat → Int} (h : FlatB V g ρ m) (hs : V.heap.size ≤ V'.heap.size) (hb : V'.heap[g]? = V.heap[g]?) : FlatB V' g ρ m :=by
 have hc : ∀ k v,V.cell? ⟨g,k,none⟩ = some v → V'.cell? ⟨g,k,none⟩ = some v :=fun k v hv => (World.cell?_of_block (w :=V) (a :=⟨g,k,none⟩) hb).trans hv
 exact ⟨Nat.lt_of_lt_of_le h.lt hs,fun k v hv => hc k v (h.regs k v hv),fun k hk => hc _ _ (h.mem k hk),hc _ _ h.made,fun k => by
  rw [World.frozen?_of_block (w :=V) (a :=⟨g,k,none⟩) hb]
  exact h.frz k⟩
theorem FlatB.under {V V' : World} {g : Nat} {ρ : Rg} {m : Nat → Int} (h : FlatB V g ρ m) (hb : Below V.heap.size V V') : FlatB V' g ρ m :=h.same hb.size (hb.block g h.lt)
def wrM (m : Nat → Int) (a : Nat) (v : Int) : Nat → Int :=fun k => if k = a then v else m k
theorem FlatB.setMem {V : World} {g : Nat} {ρ : Rg} {m : Nat → Int} (h : FlatB V g ρ m) {a : Nat} (ha : a < 65536) (v : Int) : FlatB (V.setCell ⟨g,24 + a,none⟩ (.int .u8 v)) g ρ (wrM m a v) :=by
 have hkp :=(Kp.refl g V).setCell (24 + a) (.int .u8 v)
 have hne : ∀ k u,k ≠ 24 + a → V.cell? ⟨g,k,none⟩ = some u → (V.setCell ⟨g,24 + a,none⟩ (.int .u8 v)).cell? ⟨g,k,none⟩ = some u :=fun k u hk hu =>
  (World.cell?_setCell_other V _ _ _ (by simp only [ne_eq,Addr.mk.injEq,true_and,and_true];exact Ne.symm hk)).trans hu
 have h24 : ρ.vals.toList.length = 24 :=rfl
 refine ⟨Nat.lt_of_lt_of_le h.lt hkp.size,fun k u hk => hne k u ?_ (h.regs k u hk),fun k hk => ?_,hne _ _ (by omega) h.made,fun k => (World.frozen?_setCell _ _ _ _).trans (h.frz k)⟩
 ·have :=(List.getElem?_eq_some_iff.1 hk).1
  omega
 ·unfold wrM
  by_cases e : k = a
  ·subst e
   rw [if_pos rfl]
   exact World.cell?_setCell_same V _ _ (h.mem k hk)
  ·rw [if_neg e]
   exact hne _ _ (by omega) (h.mem k hk)
theorem FlatB.setRegs {V : World} {g : Nat} {ρ : Rg} {m : Nat → Int} (h : FlatB V g ρ m) (σ : Rg) : FlatB (V.setCells g 0 σ.vals.toList) g σ m :=by
 have hkp :=Kp.setCells (g :=g) 0 σ.vals.toList V (Kp.refl g V)
 have h24 : σ.vals.toList.length = 24 :=rfl
 have hth : V.there g 0 σ.vals.toList.length :=fun j hj => by
  rw [h24] at hj
  obtain ⟨u,hu⟩ : ∃ u,ρ.vals.toList[j]? = some u :=⟨_,List.getElem?_eq_getElem (by rw [show ρ.vals.toList.length = 24 from rfl];exact hj)⟩
  rw [Nat.zero_add]
  exact ⟨by rw [h.regs j u hu];rfl,h.frz j⟩
 have hr :=World.rangeAt_setCells_same V g 0 σ.vals.toList hth
 have hout : ∀ k u,24 ≤ k → V.cell? ⟨g,k,none⟩ = some u → (V.setCells g 0 σ.vals.toList).cell? ⟨g,k,none⟩ = some u :=fun k u hk hu => (World.cell?_setCells_out g σ.vals.toList 0 V ⟨g,k,none⟩ (fun _ _ => .inr (by rw [h24];simpa using hk))).trans hu
 exact ⟨Nat.lt_of_lt_of_le h.lt hkp.size,fun k u hk => by have :=hr k u hk;rwa [Nat.zero_add] at this,fun k hk => hout _ _ (by omega) (h.mem k hk),hout _ _ (by omega) h.made,fun k => (World.frozen?_setCells _ _ _ _ _).trans (h.frz k)⟩
structure Upd (f : World → World) (g : Nat) : Prop where
 os : ∀ w,(f w).os = w.os
 tape : ∀ w,(f w).tape = w.tape
 output : ∀ w,(f w).output = w.output
 size : ∀ w,(f w).heap.size = w.heap.size
 other : ∀ w k,k ≠ g → (f w).heap[k]? = w.heap[k]?
 at_ : ∀ w w',w.heap[g]? = w'.heap[g]? → (f w).heap[g]? = (f w').heap[g]?
theorem Upd.cell (g k : Nat) (v : Value) : Upd (fun w => w.setCell ⟨g,k,none⟩ v) g :=by
 refine ⟨fun w => rfl,fun w => rfl,fun w => rfl,fun w => by simp [World.setCell],fun w i hn => Below.heap_setCell w ⟨g,k,none⟩ v i hn,fun w w' h => ?_⟩
 simp [World.setCell,Array.getElem?_modify,h]
theorem Upd.comp {f f' : World → World} {g : Nat} (h : Upd f g) (h' : Upd f' g) : Upd (fun w => f' (f w)) g :=
 ⟨fun w => (h'.os _).trans (h.os w),fun w => (h'.tape _).trans (h.tape w),fun w => (h'.output _).trans (h.output w),fun w => (h'.size _).trans (h.size w),fun w k hk => (h'.other _ k hk).trans (h.other w k hk),fun w w' e => h'.at_ _ _ (h.at_ w w' e)⟩
theorem Upd.cells (g : Nat) : ∀ (vs : List Value) (o : Nat),Upd (fun w => w.setCells g o vs) g
 | [],o => ⟨fun w => rfl,fun w => rfl,fun w => rfl,fun w => rfl,fun w k hk => rfl,fun w w' e => e⟩
 | v :: r,o => (Upd.cell g o v).comp (Upd.cells g r (o + 1))
end Go.Proofs.YtnelghpendfdmaaGreatDoor.KRow
namespace Go.Proofs.YtnelghpendfdmaaGreatDoor.KRow
open Go Go.RowKit Go.Proofs.YtnelghpendfdmaaGreatDoorW.PrintWords Go.Proofs.YtnelghpendfdmaaGreatDoorW.PrintLast Go.Proofs.YtnelghpendfdmaaGreatDoorW.PrintMore
open Go.Proofs.YtnelghpendfdmaaGreatDoor.HFun
set_option linter.unusedVariables false
set_option maxRecDepth 100000
set_option maxHeartbeats 16000000
theorem lok {W : World} {g : Nat} {ρ : Rg} {m : Nat → Int} (h : FlatB W g ρ m) : Calls Tryz.prog 42 #[.pointer (some ⟨g,0,none⟩)] W fun e V => e = .returned (.bool true) ∧ V = W :=by
 have q0 :=h.made
 clear h
 go_enter Tryz.func42,Tryz.ntmps42
 go_wp2_with fail
 go_ret
 exact ⟨rfl,rfl⟩
theorem loknil {W : World} : Calls Tryz.prog 42 #[.pointer none] W fun e V => e = .returned (.bool false) ∧ V = W :=by
 go_enter Tryz.func42,Tryz.ntmps42
 go_wp2_with fail
 go_ret
 exact ⟨rfl,rfl⟩
theorem lregsN {W : World} : Calls Tryz.prog 23 #[.pointer none] W fun e V => e = .returned (.agg zeroRg.vals) ∧ Below W.heap.size W V :=by
 have hE :=Aside0.mk (Env.nil W)
 go_enter Tryz.func23,Tryz.ntmps23
 go_wp2_with (first | ((with_reducible refine gate_alloc 24 ?_);refine wpList_new hE.out rfl (zeroRg.vals) 24 (by kernel_rfl) ?_;intro V g hE';replace hE :=Aside0.mk hE';clear hE') | (go_at_call 42;refine loknil.mono ?_;rintro e V2 ⟨rfl,rfl⟩) | ((with_reducible refine gate_store 24 ?_);refine wpList_st hE.out rfl 0 rfl 24 _ _ rfl _ rfl rfl rfl (by kernel_rfl) (vals_one _) ?_;intro V hE';replace hE :=Aside0.mk hE';clear hE') | ((with_reducible refine gate_bld 24 ?_);refine wpList_bld24 rfl rfl (.agg zeroRg.vals) (by kernel_rfl) ?_))
 have r2 :=run_loadVar_mid (P :=Tryz.prog) _ _ 0 24 (Rg.vals zeroRg).toList _ (hE.out.at_ 0 _ _ rfl).2.range Tryz.underlying24 rfl info24
 refine bodyPost_ret (v :=.agg zeroRg.vals) ?_ rfl ⟨rfl,hE.out.b⟩
 simp [results,Tryz.results23,asAddr,r2,Act.put]
theorem FlatB.range {W : World} {g : Nat} {ρ : Rg} {m : Nat → Int} (h : FlatB W g ρ m) : W.rangeAt g 0 ρ.vals.toList :=fun j v hj => by rw [Nat.zero_add];exact h.regs j v hj
theorem wpList_ldF {V : World} {g : Nat} {ρ : Rg} {m : Nat → Int} (h : FlatB V g ρ m) {ops : Array Oper} {rest : List Oper} {op : Oper} {a : Act} {Q : Exit → Act → World → Prop} (hgd : op.guard = none) (x : Operand) (ho : op.op = .load 24 x)
  (hx : a.eval x = .pointer (some ⟨g,0,none⟩)) (k : wpList Tryz.prog ops Q rest (a.put op.dst (.agg ρ.vals)) V) : wpList Tryz.prog ops Q (op :: rest) a V :=by
 refine wpList_plain hgd fun _ hK => ?_
 have :=ld24 g ρ V h.range
 unfold Oper.wp execOp
 simp only [ho,hx,this,Sem.run_bind,Sem.run_pure,Result.andThen_ok]
 exact hK _ _ k
theorem lregs {W : World} {g : Nat} {ρ : Rg} {m : Nat → Int} (h : FlatB W g ρ m) : Calls Tryz.prog 23 #[.pointer (some ⟨g,0,none⟩)] W fun e V => e = .returned (.agg ρ.vals) ∧ Below W.heap.size W V :=by
 have hE :=Aside0.mk (Env.nil W)
 replace h :=Aside0.mk h
 go_enter Tryz.func23,Tryz.ntmps23
 go_wp2_with (first | ((with_reducible refine gate_alloc 24 ?_);refine wpList_new hE.out rfl (zeroRg.vals) 24 (by kernel_rfl) ?_;intro V gx hE';replace hE :=Aside0.mk hE';clear hE') | (go_at_call 42;refine (lok (h.out.under hE.out.b)).mono ?_;rintro e V2 ⟨rfl,rfl⟩) | ((with_reducible refine gate_store 24 ?_);refine wpList_st hE.out rfl 0 rfl 24 _ _ rfl _ rfl rfl rfl (by kernel_rfl) (vals_one _) ?_;intro V hE';replace hE :=Aside0.mk hE';clear hE') | ((with_reducible refine gate_load 24 ?_);refine wpList_ldF (h.out.under hE.out.b) rfl _ rfl rfl ?_))
 have r2 :=run_loadVar_mid (P :=Tryz.prog) _ _ 0 24 (Rg.vals ρ).toList _ (hE.out.at_ 0 _ _ rfl).2.range Tryz.underlying24 rfl info24
 refine bodyPost_ret (v :=.agg ρ.vals) ?_ rfl ⟨rfl,hE.out.b⟩
 simp [results,Tryz.results23,asAddr,r2,Act.put]
end Go.Proofs.YtnelghpendfdmaaGreatDoor.KRow
namespace Go.Proofs.YtnelghpendfdmaaGreatDoor.KRow
open Go Go.RowKit Go.Proofs.YtnelghpendfdmaaGreatDoorW.PrintWords Go.Proofs.YtnelghpendfdmaaGreatDoorW.PrintLast Go.Proofs.YtnelghpendfdmaaGreatDoorW.PrintMore
open Go.Proofs.YtnelghpendfdmaaGreatDoor.HFun
set_option linter.unusedVariables false
set_option linter.unusedSimpArgs false
set_option maxRecDepth 100000
set_option maxHeartbeats 16000000
theorem Env.kpf {w0 V V' : World} {bs : List (Nat × Array Value)} {r : Nat} (h : Env w0 V bs) (hk : Kp r V V') (hle : w0.heap.size ≤ r) (hne : ∀ (j g : Nat) (cs : Array Value),bs[j]? = some (g,cs) → g ≠ r) : Env w0 V' bs :=
 ⟨h.b.trans (hk.below h.size hle),fun j g cs hj => ⟨(h.at_ j g cs hj).1,(h.at_ j g cs hj).2.kp hk (hne j g cs hj)⟩,h.ne⟩
theorem wpList_stM {V : World} {g : Nat} {ρ : Rg} {m : Nat → Int} (h : FlatB V g ρ m) {ops : Array Oper} {rest : List Oper} {op : Oper} {a : Act} {Q : Exit → Act → World → Prop} (hgd : op.guard = none) (x y : Operand) (ho : op.op = .store 5 x y) (k0 : Nat) (v : Int)
  (hx : a.eval x = .pointer (some ⟨g,24 + k0,none⟩)) (hy : a.eval y = .int .u8 v) (hlt : k0 < 65536)
  (k : ∀ V',V' = V.setCell ⟨g,24 + k0,none⟩ (.int .u8 v) → wpList Tryz.prog ops Q rest (a.put op.dst undef) V') : wpList Tryz.prog ops Q (op :: rest) a V :=by
 refine wpList_plain hgd fun _ hK => ?_
 have hrun :=run_storeVar_one (W :=V) (g :=g) (ty :=5) (by kernel_rfl) (.int .u8 v) (24 + k0) rfl rfl (by rw [h.mem k0 hlt];rfl) (h.frz _)
 unfold Oper.wp execOp
 simp only [ho,hx,hy,Instr.storeAt,Instr.sureAddr,Sem.run_bind,Sem.run_pure,Result.andThen_ok,hrun]
 exact hK _ _ (k _ rfl)
theorem wpList_boxF {w0 V : World} {bs : List (Nat × Array Value)} (h : Env w0 V bs) {ρ : Rg} {ops : Array Oper} {rest : List Oper} {op : Oper} {a : Act} {Q : Exit → Act → World → Prop} (hgd : op.guard = none) (x : Operand) (ho : op.op = .box 80 x) (hx : a.eval x = .agg (c80 ρ))
  (k : ∀ V' g,Env w0 V' bs → w0.heap.size ≤ g → (∀ (j g' : Nat) (cs : Array Value),bs[j]? = some (g',cs) → g' ≠ g) → FlatB V' g ρ (fun _ => 0) → wpList Tryz.prog ops Q rest (a.put op.dst (.pointer (some ⟨g,0,none⟩))) V') : wpList Tryz.prog ops Q (op :: rest) a V :=by
 refine wpList_plain hgd fun _ hK => ?_
 have hrun : (execOp a.eval op).run Tryz.prog V = .ok (.value (.pointer (some ⟨V.heap.size,0,none⟩))) (V.alloc (.cells (c80 ρ) 80)) :=by
  unfold execOp
  simp only [ho,hx]
  generalize c80 ρ = cs
  rfl
 unfold Oper.wp
 simp only [hrun]
 exact hK _ _ (k _ _ (h.under (below_alloc (Below.refl _ _) _)) h.size (fun j g' cs hj he => by have :=h.lt hj;omega) (flat_new V ρ 80))
def wrUp (a : Int) (b : List Int) : Nat → Nat → Int
 | 0 => fun _ => 0
 | i + 1 => wrM (wrUp a b i) ((a + (i : Int)) % 65536).toNat (rd b (i : Int))
theorem lnew {W : World} {A : Option Addr} {b : List Int} {cp : Nat} {ρ : Rg} {a : Int} (hG : ∀ V,Below W.heap.size W V → Kd.C (Kd.int .u8) V A b.length b) (hcp : b.length ≤ cp) (hbr : ∀ x ∈ b,0 ≤ x ∧ x < 256) (hok : (decide (ρ.im < 0) || decide (ρ.im > 2)) = false) (hl : b.length ≤ 300) (a0 : 0 ≤ a) (a1 : a < 65536) :
  Calls Tryz.prog 13 #[.agg ρ.vals,.int .u16 a,.slice A b.length cp] W fun e V => ∃ g : Nat,e = .returned (.tuple #[.pointer (some ⟨g,0,none⟩),.int .i64 0]) ∧ Below W.heap.size W V ∧ W.heap.size ≤ g ∧ FlatB V g ρ (wrUp a b b.length) :=by
 have hck : regs_Check.f ρ.a ρ.f ρ.b ρ.c ρ.d ρ.e ρ.h ρ.l ρ.i ρ.r ρ.ix ρ.iy ρ.sp ρ.pc ρ.wz ρ.af ρ.bc ρ.de ρ.hl ρ.ff1 ρ.ff2 ρ.im ρ.halt ρ.late = some 0 :=by
  simp only [Bool.or_eq_false_iff,decide_eq_false_iff_not] at hok
  unfold regs_Check.f
  rw [if_neg (by omega),if_neg (by omega)]
 have hE :=Aside0.mk (Env.nil W)
 replace hG :=Aside0.mk hG
 replace hcp :=Aside0.mk hcp
 replace hbr :=Aside0.mk hbr
 replace hck :=Aside0.mk hck
 have dl : decide (65536 < (b.length : Int)) = false :=decide_eq_false (by omega)
 replace hl :=Aside0.mk hl
 replace a0 :=Aside0.mk a0
 replace a1 :=Aside0.mk a1
 clear hok
 obtain ⟨k,hk⟩ : ∃ k,k = b.length :=⟨_,rfl⟩
 replace hk :=Aside0.mk hk
 go_enter Tryz.func13,Tryz.ntmps13
 go_upto_region 7 with (first | ((with_reducible refine gate_box 24 ?_);refine wpList_new hE.out rfl (Rg.vals _) 24 rfl ?_;intro V g3 hE';replace hE :=Aside0.mk hE';clear hE') | ((with_reducible refine gate_load 24 ?_);refine wpList_ld hE.out rfl 0 rfl 24 _ rfl rfl (ld24 _ _) ?_) | (go_at_call 41;refine (regs_Check.calls _ _ _ _ _ _ _ _ _ _ _ _ _ _ _ _ _ _ _ _ _ _ _ _ _ _ hck.out).mono ?_;rintro e V2 ⟨rfl,hb⟩;replace hE :=Aside0.mk (hE.out.under hb);clear hb) | ((with_reducible refine gate_bld 80 ?_);refine wpList_bld24 rfl rfl (.agg (c80 ρ)) (run_build80 rfl rfl rfl _) ?_) | ((with_reducible refine gate_box 80 ?_);refine wpList_boxF hE.out rfl _ rfl rfl ?_;intro V gF hE' hgF hne hF;replace hE :=Aside0.mk hE';replace hgF :=Aside0.mk hgF;replace hne :=Aside0.mk hne;replace hF :=Aside0.mk hF;clear hE'))
 go_wp2_with fail
 go_loopg [25] k (fun kq v25 w' => ∃ (i : Nat),Aside0 (kq + i = b.length) ∧ Aside0 (Env W w' [(g3,ρ.vals)]) ∧ Aside0 (FlatB w' gF ρ (wrUp a b i)) ∧ v25 = .int .i64 (i : Int))
 case atStart => exact ⟨0,⟨by have :=hk.out;omega⟩,hE,hF,rfl⟩
 case round =>
  obtain ⟨i,hi,hE,hF,rfl⟩ :=hrel
  cases gk with
  | zero =>
   have hi' : i = b.length :=by have :=hi.out;omega
   subst hi'
   have d1 : decide ((b.length : Int) < (b.length : Int)) = false :=decide_eq_false (by omega)
   go_wp2_with fail
   go_ret2
   exact ⟨gF,rfl,hE.out.b,hgF.out,hF.out⟩
  | succ k1 =>
   have hlt : i < b.length :=by have :=hi.out;omega
   obtain ⟨ad,ea,_⟩ :=Kd.at_int (hG.out _ (Below.refl _ _)) (i : Int) (by omega) (by omega)
   subst ea
   have hcell : ∀ V,Below W.heap.size W V → V.cell? (ad.add i) = some (.int .u8 (rd b i)) :=fun V hb => by
    obtain ⟨ad',e',h'⟩ :=Kd.at_int (hG.out V hb) (i : Int) (by omega) (by omega)
    cases e'
    simpa using h'
   replace hcell :=Aside0.mk hcell
   have hx : IntKind.u16.wrap (a + IntKind.u16.wrap (i : Int)) = (a + (i : Int)) % 65536 :=by simp only [B.wu16];omega
   have e6 : wrap64 ((i : Int) + 1) = ((i + 1 : Nat) : Int) :=by rw [B.w64 (by omega) (by have :=hl.out;omega)];omega
   have hb1 : IntKind.u16.wrap (a + IntKind.u16.wrap (i : Int)) < 65536 :=by rw [hx];omega
   replace hx :=Aside0.mk hx
   go_wp2_with (first | ((with_reducible refine gate_load 5 ?_);refine wpList_ld8 rfl _ rfl rfl (hcell.out _ hE.out.b) ?_) | ((with_reducible refine gate_store 5 ?_);refine wpList_stM hF.out rfl _ _ rfl _ _ rfl rfl (by rw [hx.out];omega) ?_;intro V' hV';rw [hx.out] at hV';replace hE :=Aside0.mk (hE.out.kpf (r :=gF) (V' :=V') (by rw [hV'];exact (Kp.refl gF _).setCell _ _) hgF.out hne.out);replace hF : Aside0 (FlatB V' gF ρ (wrUp a b (i + 1))) :=⟨by rw [hV'];exact hF.out.setMem (a :=((a + (i : Int)) % 65536).toNat) (by omega) _⟩;clear hV'))
   go_roundg k1
   case measure => omega
   case rel => exact ⟨i + 1,⟨by have :=hi.out;omega⟩,hE,hF,by rw [e6]⟩
end Go.Proofs.YtnelghpendfdmaaGreatDoor.KRow
/-
 PROVED: the contract of the closure in (*length.Flat).Step.
-/
namespace Go.Proofs.YtnelghpendfdmaaGreatDoor.KRow
open Go Go.RowKit Go.Proofs.YtnelghpendfdmaaGreatDoorW.PrintWords Go.Proofs.YtnelghpendfdmaaGreatDoorW.PrintLast Go.Proofs.YtnelghpendfdmaaGreatDoorW.PrintMore
open Go.Proofs.YtnelghpendfdmaaGreatDoor.HFun
set_option linter.unusedVariables false
set_option linter.unusedSimpArgs false
theorem run_ldF {V : World} {g : Nat} {ρ : Rg} {m : Nat → Int} (h : FlatB V g ρ m) {ev : Operand → Value} {op : Oper} {x : Operand} (ho : op.op = .load 24 x) (hx : ev x = .pointer (some ⟨g,0,none⟩)) : (execOp ev op).run Tryz.prog V = .ok (.value (.agg ρ.vals)) V :=by
 have :=ld24 g ρ V h.range
 unfold execOp
 simp only [ho,hx,this,Sem.run_bind,Sem.run_pure,Result.andThen_ok]
theorem Env.none' {w0 V : World} {bs : List (Nat × Array Value)} (h : Env w0 V bs) : Env w0 V [] :=⟨h.b,fun j g cs hj => by simp at hj,fun i j g c c' hi _ => by simp at hi⟩
set_option maxHeartbeats 16000000 in
set_option maxRecDepth 100000 in
theorem lclos {W : World} {A : Option Addr} {gl : List Int} {cp : Nat} {ρ : Rg} {m : Nat → Int} {gb gF : Nat} (hb0 : ∀ V,Below W.heap.size W V → V.cell? ⟨gb,0,none⟩ = some (.pointer (some ⟨gF,0,none⟩))) (hF : FlatB W gF ρ m) (hG : ∀ V,Below W.heap.size W V → Kd.C (Kd.int .u8) V A gl.length gl) (hcp : gl.length ≤ cp) (hr : ∀ x ∈ gl,0 ≤ x ∧ x < 256) (ht : Table W) (i0 : 0 ≤ ρ.im) (i2 : ρ.im ≤ 2) (p0 : 0 ≤ ρ.pc) (p1 : ρ.pc < 65536) {c : To} (hc : nx ρ (m (IntKind.u16.wrap (ρ.pc + 1)).toNat) gl = c) :
  Calls Tryz.prog 45 #[.slice A gl.length cp,.pointer (some ⟨gb,0,none⟩)] W fun e V => e = .returned c.val ∧ Below W.heap.size W V :=by
 have hw : IntKind.u16.wrap (ρ.pc + 1) = (ρ.pc + 1) % 65536 :=B.wu16 _
 have hpw : Aside0 ((IntKind.u16.wrap (ρ.pc + 1)).toNat < 65536) :=⟨by rw [hw];omega⟩
 have hlt : IntKind.u16.wrap (ρ.pc + 1) < 65536 :=by rw [hw];omega
 have hge : 0 ≤ IntKind.u16.wrap (ρ.pc + 1) :=by rw [hw];omega
 clear hw
 have hE :=Aside0.mk (Env.nil W)
 replace hb0 :=Aside0.mk hb0
 replace hF :=Aside0.mk hF
 replace hG :=Aside0.mk hG
 replace hcp :=Aside0.mk hcp
 replace hr :=Aside0.mk hr
 replace ht :=Aside0.mk ht
 replace i0 :=Aside0.mk i0
 replace i2 :=Aside0.mk i2
 replace hc :=Aside0.mk hc
 obtain ⟨ck,ca,cv,ct,cs,cd,ce⟩ :=c
 go_enter Tryz.func45,Tryz.ntmps45
 go_upto_region 1 with (first | ((with_reducible refine gate_alloc 56 ?_);refine wpList_new hE.out rfl (reqC 0 0 0 0) 56 (by kernel_rfl) ?_;intro V g hE';replace hE :=Aside0.mk hE';clear hE') | ((with_reducible refine gate_alloc 24 ?_);refine wpList_new hE.out rfl (zeroRg.vals) 24 (by kernel_rfl) ?_;intro V g hE';replace hE :=Aside0.mk hE';clear hE'))
 go_wp2_with (first | ((with_reducible refine gate_region 1 ?_);go_must ((refine region_sch (fun V => Env W V []) [(4,0),(0,1),(1,0),(2,0),(3,1),(5,1),(12,0),(13,0),(6,1),(7,0),(8,0),(9,0),(10,1),(11,0),(14,0),(15,1),(16,2),(17,0),(18,0),(19,0)] [20,21,22,23,24] [20,21,22,23,24] 25 (by kernel_rfl) rfl rfl (by kernel_rfl) (by intro c a d v w h;cases d <;> exact h) ((hE.out.drewN 1).none') ?_);replace hE :=Aside0.mk (hE.out.drewN 1);have hS0 :=hE.out.none';(repeat (first | (refine Sch.pureN (v :=?_) (a' :=?_) rfl rfl (by rfl) ?_ ?_ ?_;rotate_left 2;(· (intro w';go_simp <;> (repeat (first | rw [if_pos (by omega)] | rw [if_neg (by omega)])) <;> with_reducible rfl));(· (simp only [aput] <;> rfl))) | (refine Sch.takeN (v :=?_) (a' :=?_) rfl rfl (by rfl) hS0 ?_ ?_ ?_;rotate_left 2;(· (intro w' hS';have qq :=hb0.out _ hS'.b;go_simp <;> with_reducible rfl));(· (simp only [aput] <;> rfl))) | (refine Sch.takeN (a' :=?_) rfl rfl (by rfl) hS0 (fun w' hS' => run_ldF (hF.out.under hS'.b) rfl rfl) ?_ ?_;rotate_left;(· (simp only [aput] <;> rfl))) | (refine Sch.takeN (v :=?_) (a' :=?_) rfl rfl (by rfl) hS0 ?_ ?_ ?_;rotate_left 2;(· (intro w' hS';have qq :=(hF.out.under hS'.b).regs 13 _ rfl;go_simp <;> with_reducible rfl));(· (simp only [aput] <;> rfl))) | (refine Sch.takeN (v :=?_) (a' :=?_) rfl rfl (by rfl) hS0 ?_ ?_ ?_;rotate_left 2;(· (intro w' hS';have qq :=(hF.out.under hS'.b).mem _ hpw.out;go_simp <;> with_reducible rfl));(· (simp only [aput] <;> rfl)))));(refine Sch.call (N :=some 23) rfl rfl Tryz.func29 (by kernel_rfl) rfl ?_ (by rfl) rfl ?_ ?_;rotate_left;(· (go_simp <;> with_reducible rfl));refine (nextAll (gl :=gl) (A :=A) (cp :=cp) (ρ :=ρ) (peek :=_) (fun V' hb' => hG.out V' (hE.out.b.trans (hb'.mono hE.out.size))) hcp.out hr.out (env_tab hE.out ht.out) i0.out i2.out).mono ?_;rintro e V3 ⟨rfl,hb⟩;have hc2 :=hc.out;unfold nx at hc2;rw [hc2];clear hc2;replace hE :=Aside0.mk (hE.out.under hb);replace hS0 :=hS0.under hb;clear hb;dsimp only [To.val];refine ⟨hS0,?_⟩;refine Sch.norm (a' :=?_) ?_ ?_;rotate_left;(· (simp only [aput] <;> rfl)));(repeat (refine Sch.pureN (v :=?_) (a' :=?_) rfl rfl (by rfl) ?_ ?_ ?_;rotate_left 2;(· (intro w';go_simp <;> (repeat (first | rw [if_pos (by omega)] | rw [if_neg (by omega)])) <;> with_reducible rfl));(· (simp only [aput] <;> rfl))));(refine Sch.tail 20 5 rfl rfl ?_;simp only [List.drop_succ_cons,List.drop_zero,List.drop_nil]))) | ((with_reducible refine gate_store 56 ?_);(first | refine wpList_st hE.out rfl 0 rfl 56 _ _ rfl _ rfl rfl rfl (by kernel_rfl) (reqC_one _ _ _ _) ?_ | refine wpList_st hE.out rfl 1 rfl 56 _ _ rfl _ rfl rfl rfl (by kernel_rfl) (reqC_one _ _ _ _) ?_);intro V hE';(try dsimp only [List.set_cons_zero,List.set_cons_succ] at hE');replace hE :=Aside0.mk hE';clear hE') | ((with_reducible refine gate_store 24 ?_);(first | refine wpList_st hE.out rfl 0 rfl 24 _ _ rfl _ rfl rfl rfl (by kernel_rfl) (vals_one _) ?_ | refine wpList_st hE.out rfl 1 rfl 24 _ _ rfl _ rfl rfl rfl (by kernel_rfl) (vals_one _) ?_);intro V hE';(try dsimp only [List.set_cons_zero,List.set_cons_succ] at hE');replace hE :=Aside0.mk hE';clear hE'))
 have r1 :=run_loadVar_mid (P :=Tryz.prog) _ _ 0 56 (reqC _ _ _ _).toList _ (hE.out.at_ 1 _ _ rfl).2.range Tryz.underlying56 rfl info56
 have r2 :=run_loadVar_mid (P :=Tryz.prog) _ _ 0 24 (Rg.vals _).toList _ (hE.out.at_ 0 _ _ rfl).2.range Tryz.underlying24 rfl info24
 refine bodyPost_ret (v :=To.val _) ?_ rfl ⟨rfl,hE.out.b⟩
 simp [results,Tryz.results45,asAddr,r1,r2,To.val]
end Go.Proofs.YtnelghpendfdmaaGreatDoor.KRow
/-
 PROVED: the contract of (*length.Flat).row where nothing but reads and fetches is asked, and of Step.
-/
namespace Go.Proofs.YtnelghpendfdmaaGreatDoor.KRow
open Go Go.RowKit Go.Proofs.YtnelghpendfdmaaGreatDoorW.PrintWords Go.Proofs.YtnelghpendfdmaaGreatDoorW.PrintLast Go.Proofs.YtnelghpendfdmaaGreatDoorW.PrintMore
open Go.Proofs.YtnelghpendfdmaaGreatDoor.HFun
set_option linter.unusedVariables false
set_option linter.unusedSimpArgs false
noncomputable def frow (F : List Int → To) (m : Nat → Int) : Nat → List S56 → List Int → Option (List S56 × Rg)
 | 0,_,_ => none
 | n + 1,out,got => if (F got).e = 0 then (if (F got).d = true then some (out,(F got).s) else if ((F got).k = 1 ∨ (F got).k = 2) ∧ 0 ≤ (F got).a ∧ (F got).a < 65536 then frow F m n (out ++ [⟨(F got).k,(F got).a,(F got).v,(F got).t⟩]) (got ++ [m (F got).a.toNat]) else none) else none
theorem frow_inv {F : List Int → To} {m : Nat → Int} {n : Nat} {out : List S56} {got : List Int} {o : List S56} {s : Rg} (H : frow F m (n + 1) out got = some (o,s)) :
  ∃ (ck ca cv ct : Int) (cs : Rg) (cd : Bool),F got = ⟨ck,ca,cv,ct,cs,cd,0⟩ ∧ ((cd = true ∧ out = o ∧ cs = s) ∨ (cd = false ∧ (ck = 1 ∨ ck = 2) ∧ 0 ≤ ca ∧ ca < 65536 ∧ frow F m n (out ++ [⟨ck,ca,cv,ct⟩]) (got ++ [m ca.toNat]) = some (o,s))) :=by
 obtain ⟨c,hc⟩ : ∃ c,F got = c :=⟨_,rfl⟩
 obtain ⟨ck,ca,cv,ct,cs,cd,ce⟩ :=c
 unfold frow at H
 rw [hc] at H
 by_cases he : ce = 0
 case neg => rw [if_neg he] at H;cases H
 subst he
 refine ⟨ck,ca,cv,ct,cs,cd,hc,?_⟩
 rw [if_pos rfl] at H
 cases cd with
 | true =>
  rw [if_pos rfl] at H
  simp only [Option.some.injEq,Prod.mk.injEq] at H
  exact .inl ⟨rfl,H⟩
 | false =>
  rw [if_neg Bool.false_ne_true] at H
  simp only at H
  by_cases h : (ck = 1 ∨ ck = 2) ∧ 0 ≤ ca ∧ ca < 65536
  ·rw [if_pos h] at H
   exact .inr ⟨rfl,h.1,h.2.1,h.2.2,H⟩
  ·rw [if_neg h] at H;cases H
theorem wpList_stF {V : World} {g : Nat} {ρ : Rg} {m : Nat → Int} (h : FlatB V g ρ m) {ops : Array Oper} {rest : List Oper} {op : Oper} {a : Act} {Q : Exit → Act → World → Prop} (hgd : op.guard = none) (x y : Operand) (ho : op.op = .store 24 x y) (σ : Rg)
  (hx : a.eval x = .pointer (some ⟨g,0,none⟩)) (hy : a.eval y = .agg σ.vals)
  (k : ∀ V',V' = V.setCells g 0 σ.vals.toList → wpList Tryz.prog ops Q rest (a.put op.dst undef) V') : wpList Tryz.prog ops Q (op :: rest) a V :=
 wpList_store_mid hgd 24 x y ho g 0 σ.vals hx hy (fun j hj => by
  have h24 : σ.vals.size = 24 :=rfl
  rw [h24] at hj
  obtain ⟨u,hu⟩ : ∃ u,ρ.vals.toList[j]? = some u :=⟨_,List.getElem?_eq_getElem (by rw [show ρ.vals.toList.length = 24 from rfl];exact hj)⟩
  rw [Nat.zero_add]
  exact ⟨by rw [h.regs j u hu];rfl,h.frz j⟩) info24 (vals_one _) (k _ rfl)
set_option maxHeartbeats 16000000 in
set_option maxRecDepth 100000 in
theorem lrow12 {W : World} {ρ : Rg} {m : Nat → Int} {gb gF : Nat} {ak : Int} (hb0 : ∀ V,Below W.heap.size W V → V.cell? ⟨gb,0,none⟩ = some (.pointer (some ⟨gF,0,none⟩))) (hF : FlatB W gF ρ m) (hm : ∀ k,0 ≤ m k ∧ m k < 256) (ht : Table W) (i0 : 0 ≤ ρ.im) (i2 : ρ.im ≤ 2) (p0 : 0 ≤ ρ.pc) (p1 : ρ.pc < 65536) {o : List S56} {s : Rg} {k : Nat} (hk : k ≤ 12) (H : frow (nx ρ (m (IntKind.u16.wrap (ρ.pc + 1)).toNat)) m k [] [] = some (o,s)) :
  Calls Tryz.prog 44 #[.pointer (some ⟨gF,0,none⟩),.func (.func 45) #[] #[.pointer (some ⟨gb,0,none⟩)],.int .u8 ak] W fun e V => ∃ A c,e = .returned (.slice A o.length c) ∧ Kp gF W V ∧ FlatB V gF s m :=by
 have hE :=Aside0.mk (Env.nil W)
 replace hb0 :=Aside0.mk hb0
 replace hF :=Aside0.mk hF
 replace hm :=Aside0.mk hm
 replace ht :=Aside0.mk ht
 replace i0 :=Aside0.mk i0
 replace i2 :=Aside0.mk i2
 replace p0 :=Aside0.mk p0
 replace p1 :=Aside0.mk p1
 replace H :=Aside0.mk H
 replace hk :=Aside0.mk hk
 go_enter Tryz.func44,Tryz.ntmps44
 go_wp2_with fail
 go_loopg [6,7] k (fun kq v6 v7 w' => ∃ (x : List S56) (y : List Int),Aside0 (frow (nx ρ (m (IntKind.u16.wrap (ρ.pc + 1)).toNat)) m kq x y = some (o,s)) ∧ Aside0 (∀ z ∈ y,0 ≤ z ∧ z < 256) ∧ Aside0 (kq + x.length ≤ 12 ∧ y.length = x.length) ∧ Aside0 (EnvR W w' [] v6 x v7 y))
 case atStart => exact ⟨[],[],H,⟨fun z hz => by cases hz⟩,⟨by have :=hk.out;simpa using this⟩,⟨EnvR.start hE.out⟩⟩
 case round =>
  obtain ⟨x,y,HA,HL,HO,hE⟩ :=hrel
  cases gk with
  | zero => exact absurd HA.out (by simp [frow])
  | succ k1 =>
   obtain ⟨ck,ca,cv,ct,cs,cd,hc,hcase⟩ :=frow_inv HA.out
   obtain ⟨Ao,co,eo,_,_⟩ :=Kd.R_reads hE.out.o
   subst eo
   obtain ⟨Ag,cg,eg,_,_⟩ :=Kd.R_reads hE.out.g
   subst eg
   replace hc :=Aside0.mk hc
   replace hcase :=Aside0.mk hcase
   clear HA
   go_upto_region 4 with (first | (go_at_call 45;go_must (refine (lclos (gl :=y) (A :=Ag) (cp :=cg) (ρ :=ρ) (m :=m) (gb :=gb) (gF :=gF) (fun V' hb' => hb0.out V' (hE.out.env.b.trans (hb'.mono hE.out.env.size))) (hF.out.under hE.out.env.b) (got_all hE.out).2 (got_all hE.out).1 HL.out (env_tab hE.out.env ht.out) i0.out i2.out p0.out p1.out hc.out).mono ?_);rintro e V2 ⟨rfl,hb⟩;replace hE :=Aside0.mk (hE.out.under hb);clear hb;dsimp only [To.val]) | ((with_reducible refine gate_alloc 56 ?_);refine wpList_newR hE.out rfl (reqC 0 0 0 0) 56 (by kernel_rfl) ?_;intro V g hE';replace hE :=Aside0.mk hE';clear hE') | ((with_reducible refine gate_alloc 24 ?_);refine wpList_newR hE.out rfl (zeroRg.vals) 24 (by kernel_rfl) ?_;intro V g hE';replace hE :=Aside0.mk hE';clear hE') | ((with_reducible refine gate_store 56 ?_);(first | refine wpList_stR hE.out rfl 0 rfl 56 _ _ rfl _ rfl rfl rfl (by kernel_rfl) (reqC_one _ _ _ _) ?_ | refine wpList_stR hE.out rfl 1 rfl 56 _ _ rfl _ rfl rfl rfl (by kernel_rfl) (reqC_one _ _ _ _) ?_);intro V hE';(try dsimp only [List.set_cons_zero,List.set_cons_succ] at hE');replace hE :=Aside0.mk hE';clear hE') | ((with_reducible refine gate_store 24 ?_);(first | refine wpList_stR hE.out rfl 0 rfl 24 _ _ rfl _ rfl rfl rfl (by kernel_rfl) (vals_one _) ?_ | refine wpList_stR hE.out rfl 1 rfl 24 _ _ rfl _ rfl rfl rfl (by kernel_rfl) (vals_one _) ?_ | refine wpList_stR hE.out rfl 2 rfl 24 _ _ rfl _ rfl rfl rfl (by kernel_rfl) (vals_one _) ?_);intro V hE';(try dsimp only [List.set_cons_zero,List.set_cons_succ] at hE');replace hE :=Aside0.mk hE';clear hE') | ((with_reducible refine gate_load 56 ?_);(try refine gate_guard (by rfl) ?_);(first | refine wpList_ld hE.out.env rfl 0 rfl 56 _ rfl rfl (ld56 _ _ _ _ _) ?_ | refine wpList_ld hE.out.env rfl 1 rfl 56 _ rfl rfl (ld56 _ _ _ _ _) ?_)))
   rcases hcase.out with ⟨rfl,rfl,rfl⟩ | ⟨rfl,hk12,a0,a1,H2⟩
   ·clear hcase
    go_wp2_with (first | ((with_reducible refine gate_load 24 ?_);refine wpList_ld hE.out.env rfl 0 rfl 24 _ rfl rfl (ld24 _ _) ?_) | ((with_reducible refine gate_store 24 ?_);refine wpList_stF (hF.out.under hE.out.env.b) rfl _ _ rfl _ rfl rfl ?_;intro V' hV'))
    go_ret
    exact ⟨Ao,co,rfl,(by (try rw [hV']);exact (Kp.of_below hE.out.env.b).trans (Kp.setCells 0 _ _ (Kp.refl gF _))),(by (try rw [hV']);exact (hF.out.under hE.out.env.b).setRegs _)⟩
   ·clear hcase
    replace H2 :=Aside0.mk H2
    have hpa : Aside0 (ca.toNat < 65536) :=⟨by omega⟩
    have q0 :=(hE.out.env.at_ 1 _ _ rfl).2.cell 0 _ rfl
    have hd : ((ck == 1) = true ∧ True) ∨ ((ck == 1) = false ∧ (ck == 2) = true) :=by
     rcases hk12 with e | e
     ·exact .inl ⟨by rw [e];rfl,trivial⟩
     ·exact .inr ⟨by rw [e];rfl,by rw [e];rfl⟩
    clear hk12
    rcases hd with ⟨d1,d2⟩ | ⟨d1,d2⟩
    all_goals (
     go_wp2_with (first | ((with_reducible refine gate_region 13 ?_);go_must ((refine region_sch (fun V => Env W V [_]) [(0,0),(1,0),(3,0),(2,1),(4,0),(5,1)] [6] [6] 7 (by kernel_rfl) rfl rfl (by kernel_rfl) (by intro c a d v w h;cases d <;> exact h) ((hE.out.env.drewN 1).one (i :=1) rfl) ?_);replace hE :=Aside0.mk (hE.out.drewN 1);have hS0 :=hE.out.env.one (i :=1) rfl;(repeat (first | (refine Sch.pureN (v :=?_) (a' :=?_) rfl rfl (by rfl) ?_ ?_ ?_;rotate_left 2;(· (intro w';go_simp <;> (repeat (first | rw [if_pos (by omega)] | rw [if_neg (by omega)])) <;> with_reducible rfl));(· (simp only [aput] <;> rfl))) | (refine Sch.takeN (v :=?_) (a' :=?_) rfl rfl (by rfl) hS0 ?_ ?_ ?_;rotate_left 2;(· (intro w' hS';have qq :=(hS'.at_ 0 _ _ rfl).2.cell 1 _ rfl;go_simp <;> with_reducible rfl));(· (simp only [aput] <;> rfl))) | (refine Sch.takeN (v :=?_) (a' :=?_) rfl rfl (by rfl) hS0 ?_ ?_ ?_;rotate_left 2;(· (intro w' hS';have qq :=(hF.out.under hS'.b).mem _ hpa.out;go_simp <;> with_reducible rfl));(· (simp only [aput] <;> rfl)))));(refine Sch.tail 6 1 rfl rfl ?_;simp only [List.drop_succ_cons,List.drop_zero,List.drop_nil]))) | ((with_reducible refine gate_load 56 ?_);(try refine gate_guard (by rfl) ?_);(first | refine wpList_ld hE.out.env rfl 0 rfl 56 _ rfl rfl (ld56 _ _ _ _ _) ?_ | refine wpList_ld hE.out.env rfl 1 rfl 56 _ rfl rfl (ld56 _ _ _ _ _) ?_)) | ((with_reducible refine gate_bsl 38 ?_);refine wpList_bslA rfl (s56c ⟨ck,ca,cv,ct⟩) 56 1 (by kernel_rfl) ?_) | ((with_reducible refine gate_bsl 25 ?_);refine wpList_bslA rfl #[.int .u8 (m ca.toNat)] 5 1 (by kernel_rfl) ?_) | ((with_reducible refine gate_builtin (b :=.append) (xs :=#[.tmp 67,.tmp 69]) rfl ?_);at_builtin;refine wpList_app56 hE.out ⟨ck,ca,cv,ct⟩ rfl (.tmp 67) (.tmp 69) rfl rfl rfl (by have :=HO.out;omega) ?_;intro v1 V3 hE';replace hE :=Aside0.mk hE';clear hE') | ((with_reducible refine gate_builtin (b :=.append) (xs :=#[.tmp 71,.tmp 73]) rfl ?_);at_builtin;refine wpList_app8 hE.out (m ca.toNat) rfl (.tmp 71) (.tmp 73) rfl rfl rfl (by have :=HO.out;omega) ?_;intro v2 V3 hE';replace hE :=Aside0.mk hE';clear hE'))
     go_roundg k1
     case measure => omega
     case rel => exact ⟨_,_,H2,⟨fun z hz => by rcases List.mem_append.1 hz with h | h;exact HL.out z h;rw [List.mem_singleton.1 h];exact hm.out _⟩,⟨by have h3 :=HO.out;refine ⟨by simp;omega,by simp;omega⟩⟩,⟨hE.out.drop 2⟩⟩)
end Go.Proofs.YtnelghpendfdmaaGreatDoor.KRow
/-
 PROVED: Step of a flat machine; the methods of one that nobody made.
-/
namespace Go.Proofs.YtnelghpendfdmaaGreatDoor.KRow
set_option maxRecDepth 100000
set_option maxHeartbeats 16000000
open Go Go.RowKit Go.Proofs.YtnelghpendfdmaaGreatDoorW.PrintWords Go.Proofs.YtnelghpendfdmaaGreatDoorW.PrintLast Go.Proofs.YtnelghpendfdmaaGreatDoorW.PrintMore
open Go.Proofs.YtnelghpendfdmaaGreatDoor.HFun
set_option linter.unusedVariables false
set_option linter.unusedSimpArgs false
theorem run_ld33 {w0 V : World} {bs : List (Nat × Array Value)} (h : Env w0 V bs) (i : Nat) {g : Nat} {q : Option Addr} (hi : bs[i]? = some (g,#[.pointer q])) {ev : Operand → Value} {op : Oper} {x : Operand} (ho : op.op = .load 33 x) (hx : ev x = .pointer (some ⟨g,0,none⟩)) : (execOp ev op).run Tryz.prog V = .ok (.value (.pointer q)) V :=by
 have hc :=(h.at_ i _ _ hi).2.cell 0 _ rfl
 unfold execOp
 simp only [ho,hx]
 simp [go_sem,hc]
theorem lstepN {W : World} {at_ v : Int} : Calls Tryz.prog 16 #[.pointer none] W fun e V => e = .returned (.tuple #[.slice none 0 0,.int .i64 1]) ∧ Below W.heap.size W V :=by
 have hE :=Aside0.mk (Env.nil W)
 go_enter Tryz.func16,Tryz.ntmps16
 go_wp2_with (first | ((with_reducible refine gate_box 33 ?_);refine wpList_new hE.out rfl (#[.pointer none]) 33 rfl ?_;intro V gb hE';replace hE :=Aside0.mk hE';clear hE') | ((with_reducible refine gate_load 33 ?_);refine wpList_val' rfl (.pointer none) (run_ld33 hE.out 0 rfl rfl rfl) ?_) | (go_at_call 42;refine loknil.mono ?_;rintro e V2 ⟨rfl,rfl⟩))
 go_ret2
 exact ⟨rfl,hE.out.b⟩
theorem lintrN {W : World} {at_ v : Int} : Calls Tryz.prog 22 #[.pointer none,.int .u8 v] W fun e V => e = .returned (.tuple #[.slice none 0 0,.int .i64 1]) ∧ Below W.heap.size W V :=by
 have hE :=Aside0.mk (Env.nil W)
 go_enter Tryz.func22,Tryz.ntmps22
 go_wp2_with (first | ((with_reducible refine gate_box 33 ?_);refine wpList_new hE.out rfl (#[.pointer none]) 33 rfl ?_;intro V gb hE';replace hE :=Aside0.mk hE';clear hE') | ((with_reducible refine gate_load 33 ?_);refine wpList_val' rfl (.pointer none) (run_ld33 hE.out 0 rfl rfl rfl) ?_) | (go_at_call 42;refine loknil.mono ?_;rintro e V2 ⟨rfl,rfl⟩))
 go_ret2
 exact ⟨rfl,hE.out.b⟩
theorem lbyteN {W : World} {at_ v : Int} : Calls Tryz.prog 24 #[.pointer none,.int .u16 at_] W fun e V => e = .returned (.int .u8 0) ∧ Below W.heap.size W V :=by
 have hE :=Aside0.mk (Env.nil W)
 go_enter Tryz.func24,Tryz.ntmps24
 go_wp2_with (first | (go_at_call 42;refine loknil.mono ?_;rintro e V2 ⟨rfl,rfl⟩))
 go_ret
 exact ⟨rfl,hE.out.b⟩
theorem lpokeN {W : World} {at_ v : Int} : Calls Tryz.prog 25 #[.pointer none,.int .u16 at_,.int .u8 v] W fun e V => e = .returned (.int .i64 1) ∧ Below W.heap.size W V :=by
 have hE :=Aside0.mk (Env.nil W)
 go_enter Tryz.func25,Tryz.ntmps25
 go_wp2_with (first | (go_at_call 42;refine loknil.mono ?_;rintro e V2 ⟨rfl,rfl⟩))
 go_ret
 exact ⟨rfl,hE.out.b⟩
theorem linsN {W : World} {at_ v : Int} : Calls Tryz.prog 15 #[.pointer none] W fun e V => e = .returned (.tuple #[.agg (insC 0 0 0 0 0 0),.int .i64 1]) ∧ Below W.heap.size W V :=by
 have hE :=Aside0.mk (Env.nil W)
 go_enter Tryz.func15,Tryz.ntmps15
 go_wp2_with (first | ((with_reducible refine gate_alloc 28 ?_);refine wpList_new hE.out rfl (insC 0 0 0 0 0 0) 28 (by kernel_rfl) ?_;intro V g hE';replace hE :=Aside0.mk hE';clear hE') | (go_at_call 42;refine loknil.mono ?_;rintro e V2 ⟨rfl,rfl⟩) | ((with_reducible refine gate_bld 28 ?_);refine wpList_bld24 rfl rfl (.agg (insC 0 0 0 0 0 0)) (by kernel_rfl) ?_) | ((with_reducible refine gate_store 28 ?_);refine wpList_st hE.out rfl 0 rfl 28 _ _ rfl _ rfl rfl rfl (by kernel_rfl) (insC_one _ _ _ _ _ _) ?_;intro V hE';(try dsimp only [List.set_cons_zero,List.set_cons_succ] at hE');replace hE :=Aside0.mk hE';clear hE'))
 have r1 :=run_loadVar_mid (P :=Tryz.prog) _ _ 0 28 (insC 0 0 0 0 0 0).toList _ (hE.out.at_ 0 _ _ rfl).2.range Tryz.underlying28 rfl info28
 refine bodyPost_ret (v :=.tuple #[.agg (insC 0 0 0 0 0 0),.int .i64 1]) ?_ rfl ⟨rfl,hE.out.b⟩
 simp [results,Tryz.results15,asAddr,r1,Act.put]
theorem lstep12 {W : World} {ρ : Rg} {m : Nat → Int} {gF : Nat} (hF : FlatB W gF ρ m) (hm : ∀ k,0 ≤ m k ∧ m k < 256) (ht : Table W) (i0 : 0 ≤ ρ.im) (i2 : ρ.im ≤ 2) (p0 : 0 ≤ ρ.pc) (p1 : ρ.pc < 65536) {o : List S56} {s : Rg} {k : Nat} (hk : k ≤ 12) (H : frow (nx ρ (m (IntKind.u16.wrap (ρ.pc + 1)).toNat)) m k [] [] = some (o,s)) :
  Calls Tryz.prog 16 #[.pointer (some ⟨gF,0,none⟩)] W fun e V => ∃ A c,e = .returned (.tuple #[.slice A o.length c,.int .i64 0]) ∧ Kp gF W V ∧ FlatB V gF s m :=by
 have hE :=Aside0.mk (Env.nil W)
 replace hF :=Aside0.mk hF
 replace hm :=Aside0.mk hm
 replace ht :=Aside0.mk ht
 replace i0 :=Aside0.mk i0
 replace i2 :=Aside0.mk i2
 replace p0 :=Aside0.mk p0
 replace p1 :=Aside0.mk p1
 replace H :=Aside0.mk H
 replace hk :=Aside0.mk hk
 have hmf : ∀ (fn : Fn) (first cap : Array Value) (w : World),(Instr.makeFunc fn first cap).run Tryz.prog w = .ok (.func fn first cap) w :=fun _ _ _ _ => rfl
 go_enter Tryz.func16,Tryz.ntmps16
 go_wp2_with (first | ((with_reducible refine gate_box 33 ?_);refine wpList_new hE.out rfl (#[.pointer (some ⟨gF,0,none⟩)]) 33 rfl ?_;intro V gb hE';replace hE :=Aside0.mk hE';clear hE') | ((with_reducible refine gate_load 33 ?_);refine wpList_val' rfl (.pointer (some ⟨gF,0,none⟩)) (run_ld33 hE.out 0 rfl rfl rfl) ?_) | (go_at_call 42;refine (lok (hF.out.under hE.out.b)).mono ?_;rintro e V2 ⟨rfl,rfl⟩) | (go_at_call 44;go_must (refine (lrow12 (gb :=gb) (gF :=gF) (fun V' hb' => (((hE.out.under hb').at_ 0 _ _ rfl).2.cell 0 _ rfl)) (hF.out.under hE.out.b) hm.out (env_tab hE.out ht.out) i0.out i2.out p0.out p1.out hk.out H.out).mono ?_);rintro e V2 ⟨Ao,co,rfl,hkp,hF2⟩))
 go_ret2
 exact ⟨Ao,co,rfl,(Kp.of_below hE.out.b).trans hkp,hF2⟩
end Go.Proofs.YtnelghpendfdmaaGreatDoor.KRow
/-
 PROVED: what package length says of the instructions in the chapter's examples.
-/
namespace Go.Proofs.YtnelghpendfdmaaGreatDoor.KRow
set_option maxRecDepth 100000
set_option maxHeartbeats 16000000
open Go Go.RowKit Go.Proofs.YtnelghpendfdmaaGreatDoorW.PrintWords Go.Proofs.YtnelghpendfdmaaGreatDoorW.PrintLast Go.Proofs.YtnelghpendfdmaaGreatDoorW.PrintMore
open Go.Proofs.YtnelghpendfdmaaGreatDoor.HFun
set_option linter.unusedVariables false
set_option linter.unusedSimpArgs false
def plC (a b : ByteArray) : Array Value :=#[.string a,.string b]
theorem plC_one (a b : ByteArray) : (plC a b).all (·.oneCell') = true :=by
 unfold plC
 simp [Value.oneCell']
theorem info85 : (Tryz.prog.info? 85).map (·.size) = some 2 :=by kernel_rfl
theorem ld85 (g : Nat) (a b : ByteArray) (W : World) (h : W.rangeAt g 0 (plC a b).toList) : (Instr.loadAt 85 (.pointer (some ⟨g,0,none⟩))).run Tryz.prog W = .ok (.agg (plC a b)) W :=run_loadAt_mid (P :=Tryz.prog) W g 0 85 (plC a b).toList _ h Tryz.underlying85 rfl info85
theorem lsame {W : World} {s : ByteArray} : Calls Tryz.prog 62 #[.string s] W fun e V => e = .returned (.agg (plC s s)) ∧ Below W.heap.size W V :=by
 have hE :=Aside0.mk (Env.nil W)
 go_enter Tryz.func62,Tryz.ntmps62
 go_wp2_with (first | ((with_reducible refine gate_alloc 85 ?_);refine wpList_new hE.out rfl (plC ByteArray.empty ByteArray.empty) 85 (by kernel_rfl) ?_;intro V g hE';replace hE :=Aside0.mk hE';clear hE') | ((with_reducible refine gate_bld 85 ?_);refine wpList_bld24 rfl rfl (.agg (plC s s)) (by kernel_rfl) ?_) | ((with_reducible refine gate_store 85 ?_);refine wpList_st hE.out rfl 0 rfl 85 _ _ rfl _ rfl rfl rfl (by kernel_rfl) (plC_one _ _) ?_;intro V hE';(try dsimp only [List.set_cons_zero,List.set_cons_succ] at hE');replace hE :=Aside0.mk hE';clear hE'))
 have r1 :=run_loadVar_mid (P :=Tryz.prog) _ _ 0 85 (plC s s).toList _ (hE.out.at_ 0 _ _ rfl).2.range Tryz.underlying85 rfl info85
 refine bodyPost_ret (v :=.agg (plC s s)) ?_ rfl ⟨rfl,hE.out.b⟩
 simp [results,Tryz.results62,asAddr,r1,Act.put]
theorem lfirst16 {W : World} : Calls Tryz.prog 77 #[.agg (insC (0) (0) (16) (0) (-2) (2))] W fun e V => e = .returned (.agg (plC (ByteArray.mk #[53,51]) (ByteArray.mk #[53,56]))) ∧ Below W.heap.size W V :=by
 have hE :=Aside0.mk (Env.nil W)
 go_enter Tryz.func77,Tryz.ntmps77
 go_wp2_with (first | ((with_reducible refine gate_box 28 ?_);refine wpList_new hE.out rfl (insC (0) (0) (16) (0) (-2) (2)) 28 rfl ?_;intro V gi hE';replace hE :=Aside0.mk hE';clear hE') | ((with_reducible refine gate_alloc 85 ?_);refine wpList_new hE.out rfl (plC ByteArray.empty ByteArray.empty) 85 (by kernel_rfl) ?_;intro V g hE';replace hE :=Aside0.mk hE';clear hE') | (go_at_call 61;refine (decode_Parts.calls 16 0 2 0 1 0 _ (by decide)).mono ?_;rintro e V3 ⟨rfl,hd5⟩;replace hE :=Aside0.mk (hE.out.under (d0_below hd5));clear hd5) | (go_at_call 65;refine (decode_Reaches.calls 20 (0) (0) (16) (0) (-2) (2) false _ (by decide +kernel)).mono ?_;rintro e V3 ⟨rfl,hb⟩;replace hE :=Aside0.mk (hE.out.under hb);clear hb) | ((with_reducible refine gate_load 28 ?_);first | refine wpList_ld hE.out rfl 0 rfl 28 _ rfl rfl (ld28 _ _ _ _ _ _ _) ?_ | refine wpList_ld hE.out rfl 1 rfl 28 _ rfl rfl (ld28 _ _ _ _ _ _ _) ?_ | refine wpList_ld hE.out rfl 2 rfl 28 _ rfl rfl (ld28 _ _ _ _ _ _ _) ?_) | ((with_reducible refine gate_load 3 ?_);(try refine gate_guard (by rfl) ?_);first | (refine wpList_ld3 hE.out rfl 0 rfl _ rfl _ _ rfl rfl ?_) | (refine wpList_ld3 hE.out rfl 1 rfl _ rfl _ _ rfl rfl ?_) | (refine wpList_ld3 hE.out rfl 2 rfl _ rfl _ _ rfl rfl ?_)) | (go_at_call 62;refine lsame.mono ?_;rintro e V3 ⟨rfl,hb⟩;replace hE :=Aside0.mk (hE.out.under hb);clear hb) | ((with_reducible refine gate_store 85 ?_);(first | refine wpList_st hE.out rfl 0 rfl 85 _ _ rfl _ rfl rfl rfl (by kernel_rfl) (plC_one _ _) ?_ | refine wpList_st hE.out rfl 1 rfl 85 _ _ rfl _ rfl rfl rfl (by kernel_rfl) (plC_one _ _) ?_ | refine wpList_st hE.out rfl 2 rfl 85 _ _ rfl _ rfl rfl rfl (by kernel_rfl) (plC_one _ _) ?_);intro V hE';(try dsimp only [List.set_cons_zero,List.set_cons_succ] at hE');replace hE :=Aside0.mk hE';clear hE') | ((with_reducible refine gate_bld 85 ?_);refine wpList_bld24 rfl rfl (.agg (plC (ByteArray.mk #[53,51]) (ByteArray.mk #[53,56]))) (by kernel_rfl) ?_) | ((with_reducible refine gate_bld 136 ?_);go_must (refine wpList_bld24 rfl rfl (.agg #[.string (ByteArray.mk #[52]),.string (ByteArray.mk #[52]),.string (ByteArray.mk #[52]),.string (ByteArray.mk #[52]),.string (ByteArray.mk #[53,51]),.string (ByteArray.mk #[53,56]),.string (ByteArray.mk #[52,56]),.string (ByteArray.mk #[52,56])]) (by kernel_rfl) ?_)) | ((with_reducible refine gate_dst (N :=32) rfl ?_);refine wpList_val' rfl (.agg (plC (ByteArray.mk #[53,51]) (ByteArray.mk #[53,56]))) (by kernel_rfl) ?_))
 have r1 :=run_loadVar_mid (P :=Tryz.prog) _ _ 0 85 (plC (ByteArray.mk #[53,51]) (ByteArray.mk #[53,56])).toList _ (hE.out.at_ 0 _ _ rfl).2.range Tryz.underlying85 rfl info85
 refine bodyPost_ret (v :=.agg (plC (ByteArray.mk #[53,51]) (ByteArray.mk #[53,56]))) ?_ rfl ⟨rfl,hE.out.b⟩
 simp [results,Tryz.results77,asAddr,r1,Act.put]
theorem lfirst52 {W : World} : Calls Tryz.prog 77 #[.agg (insC (0) (1) (52) (1) (0) (3))] W fun e V => e = .returned (.agg (plC (ByteArray.mk #[52,52,51]) (ByteArray.mk #[52,52,51]))) ∧ Below W.heap.size W V :=by
 have hE :=Aside0.mk (Env.nil W)
 go_enter Tryz.func77,Tryz.ntmps77
 go_wp2_with (first | ((with_reducible refine gate_box 28 ?_);refine wpList_new hE.out rfl (insC (0) (1) (52) (1) (0) (3)) 28 rfl ?_;intro V gi hE';replace hE :=Aside0.mk hE';clear hE') | ((with_reducible refine gate_alloc 85 ?_);refine wpList_new hE.out rfl (plC ByteArray.empty ByteArray.empty) 85 (by kernel_rfl) ?_;intro V g hE';replace hE :=Aside0.mk hE';clear hE') | (go_at_call 61;refine (decode_Parts.calls 52 0 6 4 3 0 _ (by decide)).mono ?_;rintro e V3 ⟨rfl,hd5⟩;replace hE :=Aside0.mk (hE.out.under (d0_below hd5));clear hd5) | (go_at_call 65;refine (decode_Reaches.calls 20 (0) (1) (52) (1) (0) (3) true _ (by decide +kernel)).mono ?_;rintro e V3 ⟨rfl,hb⟩;replace hE :=Aside0.mk (hE.out.under hb);clear hb) | ((with_reducible refine gate_load 28 ?_);first | refine wpList_ld hE.out rfl 0 rfl 28 _ rfl rfl (ld28 _ _ _ _ _ _ _) ?_ | refine wpList_ld hE.out rfl 1 rfl 28 _ rfl rfl (ld28 _ _ _ _ _ _ _) ?_ | refine wpList_ld hE.out rfl 2 rfl 28 _ rfl rfl (ld28 _ _ _ _ _ _ _) ?_) | ((with_reducible refine gate_load 3 ?_);(try refine gate_guard (by rfl) ?_);first | (refine wpList_ld3 hE.out rfl 0 rfl _ rfl _ _ rfl rfl ?_) | (refine wpList_ld3 hE.out rfl 1 rfl _ rfl _ _ rfl rfl ?_) | (refine wpList_ld3 hE.out rfl 2 rfl _ rfl _ _ rfl rfl ?_)) | (go_at_call 62;refine lsame.mono ?_;rintro e V3 ⟨rfl,hb⟩;replace hE :=Aside0.mk (hE.out.under hb);clear hb) | ((with_reducible refine gate_store 85 ?_);(first | refine wpList_st hE.out rfl 0 rfl 85 _ _ rfl _ rfl rfl rfl (by kernel_rfl) (plC_one _ _) ?_ | refine wpList_st hE.out rfl 1 rfl 85 _ _ rfl _ rfl rfl rfl (by kernel_rfl) (plC_one _ _) ?_ | refine wpList_st hE.out rfl 2 rfl 85 _ _ rfl _ rfl rfl rfl (by kernel_rfl) (plC_one _ _) ?_);intro V hE';(try dsimp only [List.set_cons_zero,List.set_cons_succ] at hE');replace hE :=Aside0.mk hE';clear hE'))
 have r1 :=run_loadVar_mid (P :=Tryz.prog) _ _ 0 85 (plC (ByteArray.mk #[52,52,51]) (ByteArray.mk #[52,52,51])).toList _ (hE.out.at_ 0 _ _ rfl).2.range Tryz.underlying85 rfl info85
 refine bodyPost_ret (v :=.agg (plC (ByteArray.mk #[52,52,51]) (ByteArray.mk #[52,52,51]))) ?_ rfl ⟨rfl,hE.out.b⟩
 simp [results,Tryz.results77,asAddr,r1,Act.put]
theorem lmain16 {W : World} : Calls Tryz.prog 64 #[.agg (insC (0) (0) (16) (0) (-2) (2))] W fun e V => e = .returned (.agg (plC (ByteArray.mk #[53,51]) (ByteArray.mk #[53,56]))) ∧ Below W.heap.size W V :=by
 have hE :=Aside0.mk (Env.nil W)
 go_enter Tryz.func64,Tryz.ntmps64
 go_wp2_with (first | ((with_reducible refine gate_box 28 ?_);refine wpList_new hE.out rfl (insC (0) (0) (16) (0) (-2) (2)) 28 rfl ?_;intro V gi hE';replace hE :=Aside0.mk hE';clear hE') | ((with_reducible refine gate_alloc 85 ?_);refine wpList_new hE.out rfl (plC ByteArray.empty ByteArray.empty) 85 (by kernel_rfl) ?_;intro V g hE';replace hE :=Aside0.mk hE';clear hE') | (go_at_call 61;refine (decode_Parts.calls 16 0 2 0 1 0 _ (by decide)).mono ?_;rintro e V3 ⟨rfl,hd5⟩;replace hE :=Aside0.mk (hE.out.under (d0_below hd5));clear hd5) | (go_at_call 65;refine (decode_Reaches.calls 20 (0) (0) (16) (0) (-2) (2) false _ (by decide +kernel)).mono ?_;rintro e V3 ⟨rfl,hb⟩;replace hE :=Aside0.mk (hE.out.under hb);clear hb) | ((with_reducible refine gate_load 28 ?_);first | refine wpList_ld hE.out rfl 0 rfl 28 _ rfl rfl (ld28 _ _ _ _ _ _ _) ?_ | refine wpList_ld hE.out rfl 1 rfl 28 _ rfl rfl (ld28 _ _ _ _ _ _ _) ?_ | refine wpList_ld hE.out rfl 2 rfl 28 _ rfl rfl (ld28 _ _ _ _ _ _ _) ?_) | ((with_reducible refine gate_load 3 ?_);(try refine gate_guard (by rfl) ?_);first | (refine wpList_ld3 hE.out rfl 0 rfl _ rfl _ _ rfl rfl ?_) | (refine wpList_ld3 hE.out rfl 1 rfl _ rfl _ _ rfl rfl ?_) | (refine wpList_ld3 hE.out rfl 2 rfl _ rfl _ _ rfl rfl ?_)) | (go_at_call 62;refine lsame.mono ?_;rintro e V3 ⟨rfl,hb⟩;replace hE :=Aside0.mk (hE.out.under hb);clear hb) | ((with_reducible refine gate_store 85 ?_);(first | refine wpList_st hE.out rfl 0 rfl 85 _ _ rfl _ rfl rfl rfl (by kernel_rfl) (plC_one _ _) ?_ | refine wpList_st hE.out rfl 1 rfl 85 _ _ rfl _ rfl rfl rfl (by kernel_rfl) (plC_one _ _) ?_ | refine wpList_st hE.out rfl 2 rfl 85 _ _ rfl _ rfl rfl rfl (by kernel_rfl) (plC_one _ _) ?_);intro V hE';(try dsimp only [List.set_cons_zero,List.set_cons_succ] at hE');replace hE :=Aside0.mk hE';clear hE') | (go_at_call 77;refine lfirst16.mono ?_;rintro e V3 ⟨rfl,hb⟩;replace hE :=Aside0.mk (hE.out.under hb);clear hb))
 have r1 :=run_loadVar_mid (P :=Tryz.prog) _ _ 0 85 (plC (ByteArray.mk #[53,51]) (ByteArray.mk #[53,56])).toList _ (hE.out.at_ 0 _ _ rfl).2.range Tryz.underlying85 rfl info85
 refine bodyPost_ret (v :=.agg (plC (ByteArray.mk #[53,51]) (ByteArray.mk #[53,56]))) ?_ rfl ⟨rfl,hE.out.b⟩
 simp [results,Tryz.results64,asAddr,r1,Act.put]
theorem lmain52 {W : World} : Calls Tryz.prog 64 #[.agg (insC (0) (1) (52) (1) (0) (3))] W fun e V => e = .returned (.agg (plC (ByteArray.mk #[52,52,51]) (ByteArray.mk #[52,52,51]))) ∧ Below W.heap.size W V :=by
 have hE :=Aside0.mk (Env.nil W)
 go_enter Tryz.func64,Tryz.ntmps64
 go_wp2_with (first | ((with_reducible refine gate_box 28 ?_);refine wpList_new hE.out rfl (insC (0) (1) (52) (1) (0) (3)) 28 rfl ?_;intro V gi hE';replace hE :=Aside0.mk hE';clear hE') | ((with_reducible refine gate_alloc 85 ?_);refine wpList_new hE.out rfl (plC ByteArray.empty ByteArray.empty) 85 (by kernel_rfl) ?_;intro V g hE';replace hE :=Aside0.mk hE';clear hE') | (go_at_call 61;refine (decode_Parts.calls 52 0 6 4 3 0 _ (by decide)).mono ?_;rintro e V3 ⟨rfl,hd5⟩;replace hE :=Aside0.mk (hE.out.under (d0_below hd5));clear hd5) | (go_at_call 65;refine (decode_Reaches.calls 20 (0) (1) (52) (1) (0) (3) true _ (by decide +kernel)).mono ?_;rintro e V3 ⟨rfl,hb⟩;replace hE :=Aside0.mk (hE.out.under hb);clear hb) | ((with_reducible refine gate_load 28 ?_);first | refine wpList_ld hE.out rfl 0 rfl 28 _ rfl rfl (ld28 _ _ _ _ _ _ _) ?_ | refine wpList_ld hE.out rfl 1 rfl 28 _ rfl rfl (ld28 _ _ _ _ _ _ _) ?_ | refine wpList_ld hE.out rfl 2 rfl 28 _ rfl rfl (ld28 _ _ _ _ _ _ _) ?_) | ((with_reducible refine gate_load 3 ?_);(try refine gate_guard (by rfl) ?_);first | (refine wpList_ld3 hE.out rfl 0 rfl _ rfl _ _ rfl rfl ?_) | (refine wpList_ld3 hE.out rfl 1 rfl _ rfl _ _ rfl rfl ?_) | (refine wpList_ld3 hE.out rfl 2 rfl _ rfl _ _ rfl rfl ?_)) | (go_at_call 62;refine lsame.mono ?_;rintro e V3 ⟨rfl,hb⟩;replace hE :=Aside0.mk (hE.out.under hb);clear hb) | ((with_reducible refine gate_store 85 ?_);(first | refine wpList_st hE.out rfl 0 rfl 85 _ _ rfl _ rfl rfl rfl (by kernel_rfl) (plC_one _ _) ?_ | refine wpList_st hE.out rfl 1 rfl 85 _ _ rfl _ rfl rfl rfl (by kernel_rfl) (plC_one _ _) ?_ | refine wpList_st hE.out rfl 2 rfl 85 _ _ rfl _ rfl rfl rfl (by kernel_rfl) (plC_one _ _) ?_);intro V hE';(try dsimp only [List.set_cons_zero,List.set_cons_succ] at hE');replace hE :=Aside0.mk hE';clear hE') | (go_at_call 77;refine lfirst52.mono ?_;rintro e V3 ⟨rfl,hb⟩;replace hE :=Aside0.mk (hE.out.under hb);clear hb))
 have r1 :=run_loadVar_mid (P :=Tryz.prog) _ _ 0 85 (plC (ByteArray.mk #[52,52,51]) (ByteArray.mk #[52,52,51])).toList _ (hE.out.at_ 0 _ _ rfl).2.range Tryz.underlying85 rfl info85
 refine bodyPost_ret (v :=.agg (plC (ByteArray.mk #[52,52,51]) (ByteArray.mk #[52,52,51]))) ?_ rfl ⟨rfl,hE.out.b⟩
 simp [results,Tryz.results64,asAddr,r1,Act.put]
theorem lof16 {W : World} : Calls Tryz.prog 47 #[.agg (insC (0) (0) (16) (0) (-2) (2))] W fun e V => e = .returned (.agg (plC (ByteArray.mk #[53,51]) (ByteArray.mk #[53,56]))) ∧ Below W.heap.size W V :=by
 have hE :=Aside0.mk (Env.nil W)
 go_enter Tryz.func47,Tryz.ntmps47
 go_wp2_with (first | ((with_reducible refine gate_box 28 ?_);refine wpList_new hE.out rfl (insC (0) (0) (16) (0) (-2) (2)) 28 rfl ?_;intro V gi hE';replace hE :=Aside0.mk hE';clear hE') | ((with_reducible refine gate_alloc 85 ?_);refine wpList_new hE.out rfl (plC ByteArray.empty ByteArray.empty) 85 (by kernel_rfl) ?_;intro V g hE';replace hE :=Aside0.mk hE';clear hE') | (go_at_call 61;refine (decode_Parts.calls 16 0 2 0 1 0 _ (by decide)).mono ?_;rintro e V3 ⟨rfl,hd5⟩;replace hE :=Aside0.mk (hE.out.under (d0_below hd5));clear hd5) | (go_at_call 65;refine (decode_Reaches.calls 20 (0) (0) (16) (0) (-2) (2) false _ (by decide +kernel)).mono ?_;rintro e V3 ⟨rfl,hb⟩;replace hE :=Aside0.mk (hE.out.under hb);clear hb) | ((with_reducible refine gate_load 28 ?_);first | refine wpList_ld hE.out rfl 0 rfl 28 _ rfl rfl (ld28 _ _ _ _ _ _ _) ?_ | refine wpList_ld hE.out rfl 1 rfl 28 _ rfl rfl (ld28 _ _ _ _ _ _ _) ?_ | refine wpList_ld hE.out rfl 2 rfl 28 _ rfl rfl (ld28 _ _ _ _ _ _ _) ?_) | ((with_reducible refine gate_load 3 ?_);(try refine gate_guard (by rfl) ?_);first | (refine wpList_ld3 hE.out rfl 0 rfl _ rfl _ _ rfl rfl ?_) | (refine wpList_ld3 hE.out rfl 1 rfl _ rfl _ _ rfl rfl ?_) | (refine wpList_ld3 hE.out rfl 2 rfl _ rfl _ _ rfl rfl ?_)) | (go_at_call 62;refine lsame.mono ?_;rintro e V3 ⟨rfl,hb⟩;replace hE :=Aside0.mk (hE.out.under hb);clear hb) | ((with_reducible refine gate_store 85 ?_);(first | refine wpList_st hE.out rfl 0 rfl 85 _ _ rfl _ rfl rfl rfl (by kernel_rfl) (plC_one _ _) ?_ | refine wpList_st hE.out rfl 1 rfl 85 _ _ rfl _ rfl rfl rfl (by kernel_rfl) (plC_one _ _) ?_ | refine wpList_st hE.out rfl 2 rfl 85 _ _ rfl _ rfl rfl rfl (by kernel_rfl) (plC_one _ _) ?_);intro V hE';(try dsimp only [List.set_cons_zero,List.set_cons_succ] at hE');replace hE :=Aside0.mk hE';clear hE') | (go_at_call 64;refine lmain16.mono ?_;rintro e V3 ⟨rfl,hb⟩;replace hE :=Aside0.mk (hE.out.under hb);clear hb) | ((with_reducible refine gate_load 85 ?_);first | refine wpList_ld hE.out rfl 0 rfl 85 _ rfl rfl (ld85 _ _ _) ?_ | refine wpList_ld hE.out rfl 1 rfl 85 _ rfl rfl (ld85 _ _ _) ?_))
 have r1 :=run_loadVar_mid (P :=Tryz.prog) _ _ 0 85 (plC (ByteArray.mk #[53,51]) (ByteArray.mk #[53,56])).toList _ (hE.out.at_ 1 _ _ rfl).2.range Tryz.underlying85 rfl info85
 refine bodyPost_ret (v :=.agg (plC (ByteArray.mk #[53,51]) (ByteArray.mk #[53,56]))) ?_ rfl ⟨rfl,hE.out.b⟩
 simp [results,Tryz.results47,asAddr,r1,Act.put]
theorem wpList_ld9 {w0 V : World} {bs : List (Nat × Array Value)} {ops : Array Oper} {rest : List Oper} {op : Oper} {a : Act} {Q : Exit → Act → World → Prop} (h : Env w0 V bs) (hgd : op.guard = none) (i : Nat) {g : Nat} {cs : Array Value} (hi : bs[i]? = some (g,cs)) (x : Operand) (ho : op.op = .load 9 x) (k0 : Nat) (v : ByteArray) (hx : a.eval x = .pointer (some ⟨g,k0,none⟩)) (hv : cs.toList[k0]? = some (.string v)) (k : wpList Tryz.prog ops Q rest (a.put op.dst (.string v)) V) : wpList Tryz.prog ops Q (op :: rest) a V :=by
 refine wpList_plain hgd fun _ hK => ?_
 have hc :=(h.at_ i g cs hi).2.cell k0 _ hv
 have hrun : (execOp a.eval op).run Tryz.prog V = .ok (.value (.string v)) V :=by
  unfold execOp
  simp only [ho,hx]
  simp [go_sem,hc]
 unfold Oper.wp
 simp only [hrun]
 exact hK _ _ k
theorem lof52 {W : World} : Calls Tryz.prog 47 #[.agg (insC (0) (1) (52) (1) (0) (3))] W fun e V => e = .returned (.agg (plC (ByteArray.mk #[52,52,56,52,51]) (ByteArray.mk #[52,52,56,52,51]))) ∧ Below W.heap.size W V :=by
 have hE :=Aside0.mk (Env.nil W)
 go_enter Tryz.func47,Tryz.ntmps47
 go_upto_region 21 with (first | ((with_reducible refine gate_box 28 ?_);refine wpList_new hE.out rfl (insC (0) (1) (52) (1) (0) (3)) 28 rfl ?_;intro V gi hE';replace hE :=Aside0.mk hE';clear hE') | ((with_reducible refine gate_alloc 85 ?_);refine wpList_new hE.out rfl (plC ByteArray.empty ByteArray.empty) 85 (by kernel_rfl) ?_;intro V g hE';replace hE :=Aside0.mk hE';clear hE') | (go_at_call 61;refine (decode_Parts.calls 52 0 6 4 3 0 _ (by decide)).mono ?_;rintro e V3 ⟨rfl,hd5⟩;replace hE :=Aside0.mk (hE.out.under (d0_below hd5));clear hd5) | (go_at_call 65;refine (decode_Reaches.calls 20 (0) (1) (52) (1) (0) (3) true _ (by decide +kernel)).mono ?_;rintro e V3 ⟨rfl,hb⟩;replace hE :=Aside0.mk (hE.out.under hb);clear hb) | ((with_reducible refine gate_load 28 ?_);first | refine wpList_ld hE.out rfl 0 rfl 28 _ rfl rfl (ld28 _ _ _ _ _ _ _) ?_ | refine wpList_ld hE.out rfl 1 rfl 28 _ rfl rfl (ld28 _ _ _ _ _ _ _) ?_ | refine wpList_ld hE.out rfl 2 rfl 28 _ rfl rfl (ld28 _ _ _ _ _ _ _) ?_) | ((with_reducible refine gate_load 3 ?_);(try refine gate_guard (by rfl) ?_);first | (refine wpList_ld3 hE.out rfl 0 rfl _ rfl _ _ rfl rfl ?_) | (refine wpList_ld3 hE.out rfl 1 rfl _ rfl _ _ rfl rfl ?_) | (refine wpList_ld3 hE.out rfl 2 rfl _ rfl _ _ rfl rfl ?_)) | (go_at_call 62;refine lsame.mono ?_;rintro e V3 ⟨rfl,hb⟩;replace hE :=Aside0.mk (hE.out.under hb);clear hb) | ((with_reducible refine gate_store 85 ?_);(first | refine wpList_st hE.out rfl 0 rfl 85 _ _ rfl _ rfl rfl rfl (by kernel_rfl) (plC_one _ _) ?_ | refine wpList_st hE.out rfl 1 rfl 85 _ _ rfl _ rfl rfl rfl (by kernel_rfl) (plC_one _ _) ?_ | refine wpList_st hE.out rfl 2 rfl 85 _ _ rfl _ rfl rfl rfl (by kernel_rfl) (plC_one _ _) ?_);intro V hE';(try dsimp only [List.set_cons_zero,List.set_cons_succ] at hE');replace hE :=Aside0.mk hE';clear hE') | (go_at_call 64;refine lmain52.mono ?_;rintro e V3 ⟨rfl,hb⟩;replace hE :=Aside0.mk (hE.out.under hb);clear hb))
 go_upto_region 22 with (first | ((with_reducible refine gate_region 21 ?_);go_must ((refine region_sch (fun V => Env W V [_]) [(0,0),(4,0),(8,0),(12,0),(1,1),(2,0),(3,0),(5,1),(6,0),(7,0),(9,1),(10,0),(11,0),(13,1),(14,0),(15,0)] [16,17,18,19] [16,17,18,19] 20 (by kernel_rfl) rfl rfl (by kernel_rfl) (by intro c a d v w h;cases d <;> exact h) ((hE.out.drewN 1).one (i :=0) rfl) ?_);replace hE :=Aside0.mk (hE.out.drewN 1);have hS0 :=hE.out.one (i :=0) rfl;(refine Sch.pureN (v :=?_) (a' :=?_) rfl rfl (by rfl) ?_ ?_ ?_;rotate_left 2;(· (intro w';go_simp <;> (repeat (first | rw [if_pos (by omega)] | rw [if_neg (by omega)])) <;> with_reducible rfl));(· (simp only [aput] <;> rfl)));(refine Sch.pureN (v :=?_) (a' :=?_) rfl rfl (by rfl) ?_ ?_ ?_;rotate_left 2;(· (intro w';go_simp <;> (repeat (first | rw [if_pos (by omega)] | rw [if_neg (by omega)])) <;> with_reducible rfl));(· (simp only [aput] <;> rfl)));(refine Sch.pureN (v :=?_) (a' :=?_) rfl rfl (by rfl) ?_ ?_ ?_;rotate_left 2;(· (intro w';go_simp <;> (repeat (first | rw [if_pos (by omega)] | rw [if_neg (by omega)])) <;> with_reducible rfl));(· (simp only [aput] <;> rfl)));(refine Sch.pureN (v :=?_) (a' :=?_) rfl rfl (by rfl) ?_ ?_ ?_;rotate_left 2;(· (intro w';go_simp <;> (repeat (first | rw [if_pos (by omega)] | rw [if_neg (by omega)])) <;> with_reducible rfl));(· (simp only [aput] <;> rfl)));(refine Sch.takeN (v :=?_) (a' :=?_) rfl rfl (by rfl) hS0 ?_ ?_ ?_;rotate_left 2;(· (intro w' hS';have qq :=(hS'.at_ 0 _ _ rfl).2.cell 0 _ rfl;go_simp <;> with_reducible rfl));(· (simp only [aput] <;> rfl)));(refine Sch.pureN (v :=(.string (ByteArray.mk #[52]))) (a' :=?_) rfl rfl (by rfl) (fun w' => by kernel_rfl) ?_ ?_;rotate_left;(· (simp only [aput] <;> rfl)));(refine Sch.pureN (v :=(.string (ByteArray.mk #[52,56]))) (a' :=?_) rfl rfl (by rfl) (fun w' => by kernel_rfl) ?_ ?_;rotate_left;(· (simp only [aput] <;> rfl)));(refine Sch.takeN (v :=?_) (a' :=?_) rfl rfl (by rfl) hS0 ?_ ?_ ?_;rotate_left 2;(· (intro w' hS';have qq :=(hS'.at_ 0 _ _ rfl).2.cell 0 _ rfl;go_simp <;> with_reducible rfl));(· (simp only [aput] <;> rfl)));(refine Sch.pureN (v :=(.string (ByteArray.mk #[52,51]))) (a' :=?_) rfl rfl (by rfl) (fun w' => by kernel_rfl) ?_ ?_;rotate_left;(· (simp only [aput] <;> rfl)));(refine Sch.pureN (v :=(.string (ByteArray.mk #[52,56,52,51]))) (a' :=?_) rfl rfl (by rfl) (fun w' => by kernel_rfl) ?_ ?_;rotate_left;(· (simp only [aput] <;> rfl)));(refine Sch.takeN (v :=?_) (a' :=?_) rfl rfl (by rfl) hS0 ?_ ?_ ?_;rotate_left 2;(· (intro w' hS';have qq :=(hS'.at_ 0 _ _ rfl).2.cell 1 _ rfl;go_simp <;> with_reducible rfl));(· (simp only [aput] <;> rfl)));(refine Sch.pureN (v :=(.string (ByteArray.mk #[52]))) (a' :=?_) rfl rfl (by rfl) (fun w' => by kernel_rfl) ?_ ?_;rotate_left;(· (simp only [aput] <;> rfl)));(refine Sch.pureN (v :=(.string (ByteArray.mk #[52,56]))) (a' :=?_) rfl rfl (by rfl) (fun w' => by kernel_rfl) ?_ ?_;rotate_left;(· (simp only [aput] <;> rfl)));(refine Sch.takeN (v :=?_) (a' :=?_) rfl rfl (by rfl) hS0 ?_ ?_ ?_;rotate_left 2;(· (intro w' hS';have qq :=(hS'.at_ 0 _ _ rfl).2.cell 1 _ rfl;go_simp <;> with_reducible rfl));(· (simp only [aput] <;> rfl)));(refine Sch.pureN (v :=(.string (ByteArray.mk #[52,51]))) (a' :=?_) rfl rfl (by rfl) (fun w' => by kernel_rfl) ?_ ?_;rotate_left;(· (simp only [aput] <;> rfl)));(refine Sch.pureN (v :=(.string (ByteArray.mk #[52,56,52,51]))) (a' :=?_) rfl rfl (by rfl) (fun w' => by kernel_rfl) ?_ ?_;rotate_left;(· (simp only [aput] <;> rfl)));(refine Sch.tail 16 4 rfl rfl ?_;simp only [List.drop_succ_cons,List.drop_zero,List.drop_nil]))) | ((with_reducible refine gate_store 9 ?_);refine wpList_st1 hE.out rfl 0 rfl 9 _ _ rfl _ _ rfl rfl (by kernel_rfl) rfl rfl (by simp [plC]) ?_;intro V hE';(try dsimp only [List.set_cons_zero,List.set_cons_succ] at hE');replace hE :=Aside0.mk hE';clear hE'))
 replace hE : Aside0 (Env W _ [(_,plC (ByteArray.mk #[52,56,52,51]) (ByteArray.mk #[52,56,52,51])),(_,plC ByteArray.empty ByteArray.empty),(_,insC (0) (1) (52) (1) (0) (3))]) :=⟨hE.out⟩
 go_wp2_with (first | ((with_reducible refine gate_load 9 ?_);first | refine wpList_ld9 hE.out rfl 0 rfl _ rfl _ _ rfl rfl ?_ | refine wpList_ld9 hE.out rfl 1 rfl _ rfl _ _ rfl rfl ?_) | ((with_reducible refine gate_dst (N :=79) rfl ?_);refine wpList_val' rfl (.string (ByteArray.mk #[52,52,56,52,51])) (by kernel_rfl) ?_) | ((with_reducible refine gate_dst (N :=82) rfl ?_);refine wpList_val' rfl (.string (ByteArray.mk #[52,52,56,52,51])) (by kernel_rfl) ?_) | ((with_reducible refine gate_bld 85 ?_);refine wpList_bld24 rfl rfl (.agg (plC (ByteArray.mk #[52,52,56,52,51]) (ByteArray.mk #[52,52,56,52,51]))) (by kernel_rfl) ?_) | ((with_reducible refine gate_store 85 ?_);(first | refine wpList_st hE.out rfl 0 rfl 85 _ _ rfl _ rfl rfl rfl (by kernel_rfl) (plC_one _ _) ?_ | refine wpList_st hE.out rfl 1 rfl 85 _ _ rfl _ rfl rfl rfl (by kernel_rfl) (plC_one _ _) ?_ | refine wpList_st hE.out rfl 2 rfl 85 _ _ rfl _ rfl rfl rfl (by kernel_rfl) (plC_one _ _) ?_);intro V hE';(try dsimp only [List.set_cons_zero,List.set_cons_succ] at hE');replace hE :=Aside0.mk hE';clear hE'))
 have r1 :=run_loadVar_mid (P :=Tryz.prog) _ _ 0 85 (plC (ByteArray.mk #[52,52,56,52,51]) (ByteArray.mk #[52,52,56,52,51])).toList _ (hE.out.at_ 1 _ _ rfl).2.range Tryz.underlying85 rfl info85
 refine bodyPost_ret (v :=.agg (plC (ByteArray.mk #[52,52,56,52,51]) (ByteArray.mk #[52,52,56,52,51]))) ?_ rfl ⟨rfl,hE.out.b⟩
 simp [results,Tryz.results47,asAddr,r1,Act.put]
end Go.Proofs.YtnelghpendfdmaaGreatDoor.KRow
/-
 PROVED: length.Of, of an instruction whose plan is known.
-/
namespace Go.Proofs.YtnelghpendfdmaaGreatDoor.KRow
set_option maxRecDepth 100000
set_option maxHeartbeats 16000000
open Go Go.RowKit Go.Proofs.YtnelghpendfdmaaGreatDoorW.PrintWords Go.Proofs.YtnelghpendfdmaaGreatDoorW.PrintLast Go.Proofs.YtnelghpendfdmaaGreatDoorW.PrintMore
open Go.Proofs.YtnelghpendfdmaaGreatDoor.HFun
set_option linter.unusedVariables false
set_option linter.unusedSimpArgs false
theorem info3c : (Tryz.prog.info? 3).map (fun i => (i.zero,i.size,i.bytes)) = some (some (.int .i64 0),1,8) :=by kernel_rfl
structure EnvI (w0 V : World) (bs : List (Nat × Array Value)) (vg : Value) (got : List Int) : Prop where
 env : Env w0 V bs
 g : (Kd.int .i64).R 3 V w0.heap.size (OffB bs) vg got
theorem EnvI.start {w0 V : World} {bs : List (Nat × Array Value)} (h : Env w0 V bs) : EnvI w0 V bs (.slice none 0 0) [] :=⟨h,Kd.R_nil _ _ _ _ _⟩
theorem wpList_app3 {w0 V : World} {bs : List (Nat × Array Value)} {vg : Value} {got : List Int} {ops : Array Oper} {rest : List Oper} {op : Oper} {a : Act} {Q : Exit → Act → World → Prop} (h : EnvI w0 V bs vg got) (x : Int) (hgd : op.guard = none) (s y : Operand) (ho : op.op = .call { callee :=.builtin .append,args :=#[s,y],argTypes :=#[41,41] }) (hs : a.eval s = vg) (hy : a.eval y = .slice (some ⟨V.heap.size,0,none⟩) 1 1) (hl : got.length ≤ 1000)
  (k : ∀ v1 V',EnvI w0 V' bs v1 (got ++ [x]) → wpList Tryz.prog ops Q rest (a.put op.dst v1) V') : wpList Tryz.prog ops Q (op :: rest) a (V.alloc (.cells #[.int .i64 x] 3)) :=by
 refine Kd.R_append (Kd.int .i64) (w0 :=w0) w0.heap.size hgd s y 41 3 (.int .i64 0) 8 ho Tryz.underlying41 info3c rfl (by decide) (by omega) vg got x [.int .i64 x] (OffB bs) (fun _ => False) hs hy rfl (fun _ hk => hk.elim) (fun k hk j g cs hj => ?_) h.g h.env.b h.env.size (by omega) ?_
 ·have :=h.env.lt hj
  omega
 ·intro v1 w1 ho hb hg hat
  exact k v1 w1 ⟨env_grown h.env hg hb hg.size (fun k hk => h.g.1 k hk),ho⟩
theorem below_bytes (V : World) (s : ByteArray) : Below V.heap.size V (Go.Lib.bytesWorld V 5 s) :=
 ⟨rfl,rfl,rfl,by rw [Go.Lib.bytesWorld_size];omega,fun k hk => Go.Lib.bytesWorld_at_old V 5 s k hk⟩
theorem wpList_conv {w0 V : World} {bs : List (Nat × Array Value)} {ops : Array Oper} {rest : List Oper} {op : Oper} {a : Act} {Q : Exit → Act → World → Prop} (h : Env w0 V bs) (hgd : op.guard = none) (x : Operand) (ho : op.op = .convert 9 25 x) (s : ByteArray) (hx : a.eval x = .string s)
  (k : ∀ V' g c,Env w0 V' bs → (∀ V2,Below V'.heap.size V' V2 → ∀ j,j < s.size → V2.cell? ⟨g,j,none⟩ = some (.int .u8 (s.data.toList.getD j 0).toNat)) → wpList Tryz.prog ops Q rest (a.put op.dst (.slice (some ⟨g,0,none⟩) s.size c)) V') : wpList Tryz.prog ops Q (op :: rest) a V :=by
 refine wpList_plain hgd fun _ hK => ?_
 have hrun : (execOp a.eval op).run Tryz.prog V = .ok (.value (.slice (some ⟨V.heap.size,0,none⟩) s.size (grownCap V s.size 0 5))) (Go.Lib.bytesWorld V 5 s) :=by
  have :=Go.Lib.run_convert_string_bytes (P :=Tryz.prog) V 9 25 5 s Tryz.underlying9 Tryz.underlying25 Tryz.underlying5
  unfold execOp
  simp only [ho,hx]
  simp [this,Result.andThen]
 unfold Oper.wp
 simp only [hrun]
 refine hK _ _ (k _ _ _ (h.under (below_bytes V s)) fun V2 hb j hj => ?_)
 have hlt : V.heap.size < (Go.Lib.bytesWorld V 5 s).heap.size :=by rw [Go.Lib.bytesWorld_size];omega
 exact (World.cell?_of_block (w :=Go.Lib.bytesWorld V 5 s) (a :=⟨V.heap.size,j,none⟩) (hb.block _ hlt)).trans (Go.Lib.bytesWorld_cell V 5 s j hj)
theorem gate_cv (ty : TypeId) {P : Program} {ops : Array Oper} {Q : Exit → Act → World → Prop} {W : World} {rest : List Oper} {d x ty' t p af gd a} (h : wpList P ops Q ({ dst :=d,op :=.convert ty ty' x,type :=t,pos :=p,after :=af,guard :=gd } :: rest) a W) : wpList P ops Q ({ dst :=d,op :=.convert ty ty' x,type :=t,pos :=p,after :=af,guard :=gd } :: rest) a W :=h
theorem lOf0 {W : World} {i0 i1 i2 i3 i4 i5 : Int} {s0 s1 : ByteArray} {ds : List Int} (hchk : decode_Check.f 20 i0 i1 i2 i3 i4 i5 = some 0) (h47 : ∀ V,Calls Tryz.prog 47 #[.agg (insC i0 i1 i2 i3 i4 i5)] V fun e V' => e = .returned (.agg (plC s0 s1)) ∧ Below V.heap.size V V') (hn : ds.length = s0.size) (hn9 : ds.length ≤ 900) (hd : ∀ j : Nat,j < ds.length → ((s0.data.toList.getD j 0).toNat : Int) = 48 + rd ds (j : Int) ∧ 0 ≤ rd ds (j : Int) ∧ rd ds (j : Int) ≤ 9) :
  Calls Tryz.prog 17 #[.agg (insC i0 i1 i2 i3 i4 i5),.bool false] W fun e V => ∃ A c,e = .returned (.tuple #[.slice A ds.length c,.int .i64 0]) ∧ Below W.heap.size W V ∧ ds.length ≤ c ∧ ∀ V',Below V.heap.size V V' → Kd.C (Kd.int .i64) V' A ds.length ds :=by
 have hE :=Aside0.mk (Env.nil W)
 replace hchk :=Aside0.mk hchk
 replace h47 :=Aside0.mk h47
 replace hd :=Aside0.mk hd
 replace hn9 :=Aside0.mk hn9
 obtain ⟨k,hk⟩ : ∃ k,k = ds.length :=⟨_,rfl⟩
 replace hk :=Aside0.mk hk
 replace hn :=Aside0.mk hn
 go_enter Tryz.func17,Tryz.ntmps17
 go_upto_region 8 with (first | ((with_reducible refine gate_box 28 ?_);refine wpList_new hE.out rfl (insC i0 i1 i2 i3 i4 i5) 28 rfl ?_;intro V gi hE';replace hE :=Aside0.mk hE';clear hE') | ((with_reducible refine gate_load 28 ?_);first | refine wpList_ld hE.out rfl 0 rfl 28 _ rfl rfl (ld28 _ _ _ _ _ _ _) ?_ | refine wpList_ld hE.out rfl 1 rfl 28 _ rfl rfl (ld28 _ _ _ _ _ _ _) ?_ | refine wpList_ld hE.out rfl 2 rfl 28 _ rfl rfl (ld28 _ _ _ _ _ _ _) ?_) | (go_at_call 46;refine (decode_Check.calls 20 i0 i1 i2 i3 i4 i5 0 _ hchk.out).mono ?_;rintro e V3 ⟨rfl,hb⟩;replace hE :=Aside0.mk (hE.out.under hb);clear hb) | (go_at_call 47;refine (h47.out _).mono ?_;rintro e V3 ⟨rfl,hb⟩;replace hE :=Aside0.mk (hE.out.under hb);clear hb) | ((with_reducible refine gate_alloc 85 ?_);refine wpList_new hE.out rfl (plC ByteArray.empty ByteArray.empty) 85 (by kernel_rfl) ?_;intro V g hE';replace hE :=Aside0.mk hE';clear hE') | ((with_reducible refine gate_store 85 ?_);(first | refine wpList_st hE.out rfl 0 rfl 85 _ _ rfl _ rfl rfl rfl (by kernel_rfl) (plC_one _ _) ?_ | refine wpList_st hE.out rfl 1 rfl 85 _ _ rfl _ rfl rfl rfl (by kernel_rfl) (plC_one _ _) ?_);intro V hE';(try dsimp only [List.set_cons_zero,List.set_cons_succ] at hE');replace hE :=Aside0.mk hE';clear hE') | ((with_reducible refine gate_load 9 ?_);first | refine wpList_ld9 hE.out rfl 0 rfl _ rfl _ _ rfl rfl ?_ | refine wpList_ld9 hE.out rfl 1 rfl _ rfl _ _ rfl rfl ?_))
 go_wp2_with (first | ((with_reducible refine gate_cv 9 ?_);refine wpList_conv hE.out rfl _ rfl _ rfl ?_;intro V gs cs hE' hcs;replace hE :=Aside0.mk hE';replace hcs :=Aside0.mk hcs;clear hE'))
 go_loopg [9,27] k (fun kq v9 v27 w' => ∃ (i : Nat) (y : List Int),Aside0 (kq + i = ds.length) ∧ Aside0 (y = ds.take i) ∧ Aside0 (EnvI V w' [] v9 y) ∧ v27 = .int .i64 (i : Int))
 case atStart => exact ⟨0,[],⟨by have :=hk.out;omega⟩,⟨rfl⟩,⟨EnvI.start (Env.nil _)⟩,rfl⟩
 case round =>
  obtain ⟨i,y,hi,hy,hI,rfl⟩ :=hrel
  obtain ⟨Ag,cg,eg,_,_⟩ :=Kd.R_reads hI.out.g
  subst eg
  cases gk with
  | zero =>
   have hi' : i = ds.length :=by have :=hi.out;omega
   subst hi'
   have hsz : ¬ (ds.length < s0.size) :=by rw [hn.out];omega
   have ht : ds.take ds.length = ds :=List.take_length
   have hy2 :=hy.out
   rw [ht] at hy2
   subst hy2
   clear ht
   go_wp2_with fail
   go_ret2
   exact ⟨Ag,cg,rfl,hE.out.b.trans (hI.out.env.b.mono hE.out.size),(R_rd hI.out.g).1,fun V' hb => Kd.C_below (R_rd hI.out.g).2 hb⟩
  | succ k1 =>
   have hlt : i < ds.length :=by have :=hi.out;omega
   have hlt2 : i < s0.size :=by rw [← hn.out];exact hlt
   obtain ⟨hb1,hb2,hb3⟩ :=hd.out i hlt
   have hcell : ∀ V2,Below V.heap.size V V2 → V2.cell? ⟨gs,i,none⟩ = some (.int .u8 (48 + rd ds (i : Int))) :=fun V2 hb => by
    have :=hcs.out V2 hb i hlt2
    rwa [hb1] at this
   have e1 : decide (97 ≤ 48 + rd ds (i : Int)) = false :=decide_eq_false (by omega)
   have e2 : IntKind.u8.wrap (48 + rd ds (i : Int) - 48) = rd ds (i : Int) :=by rw [IntKind.wrap_u8'];omega
   have e3 : wrap64 (rd ds (i : Int)) = rd ds (i : Int) :=B.w64 (by omega) (by omega)
   have e6 : wrap64 ((i : Int) + 1) = ((i + 1 : Nat) : Int) :=by rw [B.w64 (by omega) (by have :=hn9.out;omega)];omega
   have htk : ds.take (i + 1) = ds.take i ++ [rd ds (i : Int)] :=by
    rw [List.take_add_one]
    simp [rd,hlt]
   replace hcell :=Aside0.mk hcell
   replace htk :=Aside0.mk htk
   clear hb1 hb2 hb3
   go_wp2_with (first | ((with_reducible refine gate_load 5 ?_);refine wpList_ld8 rfl _ rfl rfl (hcell.out _ hI.out.env.b) ?_) | ((with_reducible refine gate_bsl 41 ?_);refine wpList_bslA rfl #[.int .i64 (wrap64 (rd ds i))] 3 1 (by kernel_rfl) ?_) | ((with_reducible refine gate_builtin (b :=.append) (xs :=#[.tmp 40,.tmp 44]) rfl ?_);at_builtin;refine wpList_app3 hI.out (wrap64 (rd ds i)) rfl (.tmp 40) (.tmp 44) rfl rfl rfl (by have :=hn9.out;have :=hy.out;subst this;rw [List.length_take];omega) ?_;intro v1 V3 hE';replace hI :=Aside0.mk hE';clear hE'))
   go_roundg k1
   case measure => omega
   case rel => exact ⟨i + 1,_,⟨by have :=hi.out;omega⟩,⟨by rw [htk.out,hy.out,e3]⟩,hI,by rw [e6]⟩
theorem lOf1 {W : World} {i0 i1 i2 i3 i4 i5 : Int} {s0 s1 : ByteArray} {ds : List Int} (hchk : decode_Check.f 20 i0 i1 i2 i3 i4 i5 = some 0) (h47 : ∀ V,Calls Tryz.prog 47 #[.agg (insC i0 i1 i2 i3 i4 i5)] V fun e V' => e = .returned (.agg (plC s0 s1)) ∧ Below V.heap.size V V') (hn : ds.length = s1.size) (hn9 : ds.length ≤ 900) (hd : ∀ j : Nat,j < ds.length → ((s1.data.toList.getD j 0).toNat : Int) = 48 + rd ds (j : Int) ∧ 0 ≤ rd ds (j : Int) ∧ rd ds (j : Int) ≤ 9) :
  Calls Tryz.prog 17 #[.agg (insC i0 i1 i2 i3 i4 i5),.bool true] W fun e V => ∃ A c,e = .returned (.tuple #[.slice A ds.length c,.int .i64 0]) ∧ Below W.heap.size W V ∧ ds.length ≤ c ∧ ∀ V',Below V.heap.size V V' → Kd.C (Kd.int .i64) V' A ds.length ds :=by
 have hE :=Aside0.mk (Env.nil W)
 replace hchk :=Aside0.mk hchk
 replace h47 :=Aside0.mk h47
 replace hd :=Aside0.mk hd
 replace hn9 :=Aside0.mk hn9
 obtain ⟨k,hk⟩ : ∃ k,k = ds.length :=⟨_,rfl⟩
 replace hk :=Aside0.mk hk
 replace hn :=Aside0.mk hn
 go_enter Tryz.func17,Tryz.ntmps17
 go_upto_region 8 with (first | ((with_reducible refine gate_box 28 ?_);refine wpList_new hE.out rfl (insC i0 i1 i2 i3 i4 i5) 28 rfl ?_;intro V gi hE';replace hE :=Aside0.mk hE';clear hE') | ((with_reducible refine gate_load 28 ?_);first | refine wpList_ld hE.out rfl 0 rfl 28 _ rfl rfl (ld28 _ _ _ _ _ _ _) ?_ | refine wpList_ld hE.out rfl 1 rfl 28 _ rfl rfl (ld28 _ _ _ _ _ _ _) ?_ | refine wpList_ld hE.out rfl 2 rfl 28 _ rfl rfl (ld28 _ _ _ _ _ _ _) ?_) | (go_at_call 46;refine (decode_Check.calls 20 i0 i1 i2 i3 i4 i5 0 _ hchk.out).mono ?_;rintro e V3 ⟨rfl,hb⟩;replace hE :=Aside0.mk (hE.out.under hb);clear hb) | (go_at_call 47;refine (h47.out _).mono ?_;rintro e V3 ⟨rfl,hb⟩;replace hE :=Aside0.mk (hE.out.under hb);clear hb) | ((with_reducible refine gate_alloc 85 ?_);refine wpList_new hE.out rfl (plC ByteArray.empty ByteArray.empty) 85 (by kernel_rfl) ?_;intro V g hE';replace hE :=Aside0.mk hE';clear hE') | ((with_reducible refine gate_store 85 ?_);(first | refine wpList_st hE.out rfl 0 rfl 85 _ _ rfl _ rfl rfl rfl (by kernel_rfl) (plC_one _ _) ?_ | refine wpList_st hE.out rfl 1 rfl 85 _ _ rfl _ rfl rfl rfl (by kernel_rfl) (plC_one _ _) ?_);intro V hE';(try dsimp only [List.set_cons_zero,List.set_cons_succ] at hE');replace hE :=Aside0.mk hE';clear hE') | ((with_reducible refine gate_load 9 ?_);first | refine wpList_ld9 hE.out rfl 0 rfl _ rfl _ _ rfl rfl ?_ | refine wpList_ld9 hE.out rfl 1 rfl _ rfl _ _ rfl rfl ?_))
 go_wp2_with (first | ((with_reducible refine gate_cv 9 ?_);refine wpList_conv hE.out rfl _ rfl _ rfl ?_;intro V gs cs hE' hcs;replace hE :=Aside0.mk hE';replace hcs :=Aside0.mk hcs;clear hE'))
 go_loopg [9,27] k (fun kq v9 v27 w' => ∃ (i : Nat) (y : List Int),Aside0 (kq + i = ds.length) ∧ Aside0 (y = ds.take i) ∧ Aside0 (EnvI V w' [] v9 y) ∧ v27 = .int .i64 (i : Int))
 case atStart => exact ⟨0,[],⟨by have :=hk.out;omega⟩,⟨rfl⟩,⟨EnvI.start (Env.nil _)⟩,rfl⟩
 case round =>
  obtain ⟨i,y,hi,hy,hI,rfl⟩ :=hrel
  obtain ⟨Ag,cg,eg,_,_⟩ :=Kd.R_reads hI.out.g
  subst eg
  cases gk with
  | zero =>
   have hi' : i = ds.length :=by have :=hi.out;omega
   subst hi'
   have hsz : ¬ (ds.length < s1.size) :=by rw [hn.out];omega
   have ht : ds.take ds.length = ds :=List.take_length
   have hy2 :=hy.out
   rw [ht] at hy2
   subst hy2
   clear ht
   go_wp2_with fail
   go_ret2
   exact ⟨Ag,cg,rfl,hE.out.b.trans (hI.out.env.b.mono hE.out.size),(R_rd hI.out.g).1,fun V' hb => Kd.C_below (R_rd hI.out.g).2 hb⟩
  | succ k1 =>
   have hlt : i < ds.length :=by have :=hi.out;omega
   have hlt2 : i < s1.size :=by rw [← hn.out];exact hlt
   obtain ⟨hb1,hb2,hb3⟩ :=hd.out i hlt
   have hcell : ∀ V2,Below V.heap.size V V2 → V2.cell? ⟨gs,i,none⟩ = some (.int .u8 (48 + rd ds (i : Int))) :=fun V2 hb => by
    have :=hcs.out V2 hb i hlt2
    rwa [hb1] at this
   have e1 : decide (97 ≤ 48 + rd ds (i : Int)) = false :=decide_eq_false (by omega)
   have e2 : IntKind.u8.wrap (48 + rd ds (i : Int) - 48) = rd ds (i : Int) :=by rw [IntKind.wrap_u8'];omega
   have e3 : wrap64 (rd ds (i : Int)) = rd ds (i : Int) :=B.w64 (by omega) (by omega)
   have e6 : wrap64 ((i : Int) + 1) = ((i + 1 : Nat) : Int) :=by rw [B.w64 (by omega) (by have :=hn9.out;omega)];omega
   have htk : ds.take (i + 1) = ds.take i ++ [rd ds (i : Int)] :=by
    rw [List.take_add_one]
    simp [rd,hlt]
   replace hcell :=Aside0.mk hcell
   replace htk :=Aside0.mk htk
   clear hb1 hb2 hb3
   go_wp2_with (first | ((with_reducible refine gate_load 5 ?_);refine wpList_ld8 rfl _ rfl rfl (hcell.out _ hI.out.env.b) ?_) | ((with_reducible refine gate_bsl 41 ?_);refine wpList_bslA rfl #[.int .i64 (wrap64 (rd ds i))] 3 1 (by kernel_rfl) ?_) | ((with_reducible refine gate_builtin (b :=.append) (xs :=#[.tmp 40,.tmp 44]) rfl ?_);at_builtin;refine wpList_app3 hI.out (wrap64 (rd ds i)) rfl (.tmp 40) (.tmp 44) rfl rfl rfl (by have :=hn9.out;have :=hy.out;subst this;rw [List.length_take];omega) ?_;intro v1 V3 hE';replace hI :=Aside0.mk hE';clear hE'))
   go_roundg k1
   case measure => omega
   case rel => exact ⟨i + 1,_,⟨by have :=hi.out;omega⟩,⟨by rw [htk.out,hy.out,e3]⟩,hI,by rw [e6]⟩
end Go.Proofs.YtnelghpendfdmaaGreatDoor.KRow
/-
 PROVED: pendulumlaw12.is, lives and FlatNil.
-/
namespace Go.Proofs.YtnelghpendfdmaaGreatDoor.KRow
set_option maxRecDepth 100000
set_option maxHeartbeats 16000000
open Go Go.RowKit Go.Proofs.YtnelghpendfdmaaGreatDoorW.PrintWords Go.Proofs.YtnelghpendfdmaaGreatDoorW.PrintLast Go.Proofs.YtnelghpendfdmaaGreatDoorW.PrintMore
open Go.Proofs.YtnelghpendfdmaaGreatDoor.HFun
set_option linter.unusedVariables false
set_option linter.unusedSimpArgs false
theorem lis {W : World} {A B C : Option Addr} {b : List Int} {cb c2 c3 : Nat} {i0 i1 i2 i3 i4 i5 : Int} {s0 s1 : ByteArray} {ds0 ds1 : List Int} (hGb : ∀ V,Below W.heap.size W V → Kd.C (Kd.int .u8) V A b.length b) (hcb : b.length ≤ cb) (hbr : ∀ x ∈ b,0 ≤ x ∧ x < 256) (hv : refOf b = (⟨i0,i1,i2,i3,i4,i5⟩,0))
  (hchk : decode_Check.f 20 i0 i1 i2 i3 i4 i5 = some 0) (h47 : ∀ V,Calls Tryz.prog 47 #[.agg (insC i0 i1 i2 i3 i4 i5)] V fun e V' => e = .returned (.agg (plC s0 s1)) ∧ Below V.heap.size V V')
  (hn0 : ds0.length = s0.size) (hm0 : ds0.length ≤ 7) (hd0 : ∀ j : Nat,j < ds0.length → ((s0.data.toList.getD j 0).toNat : Int) = 48 + rd ds0 (j : Int) ∧ 0 ≤ rd ds0 (j : Int) ∧ rd ds0 (j : Int) ≤ 9)
  (hn1 : ds1.length = s1.size) (hm1 : ds1.length ≤ 7) (hd1 : ∀ j : Nat,j < ds1.length → ((s1.data.toList.getD j 0).toNat : Int) = 48 + rd ds1 (j : Int) ∧ 0 ≤ rd ds1 (j : Int) ∧ rd ds1 (j : Int) ≤ 9)
  (hB : ∀ V,Below W.heap.size W V → Kd.C (Kd.int .i64) V B ds0.length ds0) (hc2 : ds0.length ≤ c2) (hC : ∀ V,Below W.heap.size W V → Kd.C (Kd.int .i64) V C ds1.length ds1) (hc3 : ds1.length ≤ c3) (hi0 : pendulumkit_Ints.f 8 ds0 ds0 = some true) (hi1 : pendulumkit_Ints.f 8 ds1 ds1 = some true) :
  Calls Tryz.prog 35 #[.slice A b.length cb,.slice B ds0.length c2,.slice C ds1.length c3] W fun e V => e = .returned (.bool true) ∧ Below W.heap.size W V :=by
 have hE :=Aside0.mk (Env.nil W)
 replace hGb :=Aside0.mk hGb
 replace hcb :=Aside0.mk hcb
 replace hbr :=Aside0.mk hbr
 replace hv :=Aside0.mk hv
 replace hchk :=Aside0.mk hchk
 replace h47 :=Aside0.mk h47
 replace hn0 :=Aside0.mk hn0
 replace hm0 :=Aside0.mk hm0
 replace hd0 :=Aside0.mk hd0
 replace hn1 :=Aside0.mk hn1
 replace hm1 :=Aside0.mk hm1
 replace hd1 :=Aside0.mk hd1
 replace hB :=Aside0.mk hB
 replace hc2 :=Aside0.mk hc2
 replace hC :=Aside0.mk hC
 replace hc3 :=Aside0.mk hc3
 replace hi0 :=Aside0.mk hi0
 replace hi1 :=Aside0.mk hi1
 go_enter Tryz.func35,Tryz.ntmps35
 go_upto_region 2 with (first | (go_at_call 11;refine (of_calls (fun V hb => hGb.out V (hE.out.b.trans (hb.mono hE.out.size))) hcb.out hbr.out).mono ?_;rintro e V2 ⟨rfl,hb⟩;rw [hv.out];replace hE :=Aside0.mk (hE.out.under hb);clear hb;dsimp only [ofV,Ins.vals]) | ((with_reducible refine gate_alloc 28 ?_);refine wpList_new hE.out rfl (insC 0 0 0 0 0 0) 28 (by kernel_rfl) ?_;intro V g hE';replace hE :=Aside0.mk hE';clear hE') | ((with_reducible refine gate_store 28 ?_);refine wpList_st hE.out rfl 0 rfl 28 _ _ rfl _ rfl rfl rfl (by kernel_rfl) (insC_one _ _ _ _ _ _) ?_;intro V hE';(try dsimp only [List.set_cons_zero,List.set_cons_succ] at hE');replace hE :=Aside0.mk hE';clear hE'))
 replace hE : Aside0 (Env W _ [(_,insC i0 i1 i2 i3 i4 i5)]) :=⟨hE.out⟩
 go_upto_region 3 with (first | ((with_reducible refine gate_load 28 ?_);refine wpList_ld hE.out rfl 0 rfl 28 _ rfl rfl (ld28 _ _ _ _ _ _ _) ?_) | (go_at_call 17;refine (lOf0 hchk.out h47.out hn0.out (by have :=hm0.out;omega) hd0.out).mono ?_;rintro e V2 ⟨A0,c0,rfl,hb,hc0,hC0⟩;replace hE :=Aside0.mk (hE.out.under hb);replace hC0 :=Aside0.mk hC0;replace hc0 :=Aside0.mk hc0;clear hb))
 go_upto_region 4 with (first | ((with_reducible refine gate_load 28 ?_);refine wpList_ld hE.out rfl 0 rfl 28 _ rfl rfl (ld28 _ _ _ _ _ _ _) ?_) | (go_at_call 17;refine (lOf1 hchk.out h47.out hn1.out (by have :=hm1.out;omega) hd1.out).mono ?_;rintro e V2 ⟨A1,c1,rfl,hb,hc1,hC1⟩;replace hE :=Aside0.mk (hE.out.under hb);have hq : ∀ V',Below V2.heap.size V2 V' → Kd.C (Kd.int .i64) V' A0 ds0.length ds0 :=fun V' h' => hC0.out V' (hb.trans (h'.mono hb.size));replace hC0 :=Aside0.mk hq;clear hq;replace hC1 :=Aside0.mk hC1;replace hc1 :=Aside0.mk hc1;clear hb))
 go_wp2_with (first | (go_at_call 20;(try refine gate_guard (by rfl) ?_);refine (pendulumkit_Ints.calls 8 A0 c0 ds0 B c2 ds0 true _ (hC0.out _ (Below.refl _ _)) hc0.out (hB.out _ hE.out.b) hc2.out hi0.out).mono ?_;rintro e V3 ⟨rfl,hd5⟩;have hb :=d0_below hd5;replace hE :=Aside0.mk (hE.out.under hb);have hq : ∀ V',Below V3.heap.size V3 V' → Kd.C (Kd.int .i64) V' A1 ds1.length ds1 :=fun V' h' => hC1.out V' (hb.trans (h'.mono hb.size));replace hC1 :=Aside0.mk hq;clear hq;clear hd5 hb hC0) | (go_at_call 20;(try refine gate_guard (by rfl) ?_);refine (pendulumkit_Ints.calls 8 A1 c1 ds1 C c3 ds1 true _ (hC1.out _ (Below.refl _ _)) hc1.out (hC.out _ hE.out.b) hc3.out hi1.out).mono ?_;rintro e V3 ⟨rfl,hd5⟩;have hb :=d0_below hd5;replace hE :=Aside0.mk (hE.out.under hb);clear hd5 hb hC1))
 go_ret
 exact ⟨rfl,hE.out.b⟩
theorem wpList_bslF {w0 V : World} {bs : List (Nat × Array Value)} {gF : Nat} {ρ : Rg} {m : Nat → Int} {ops : Array Oper} {rest : List Oper} {op : Oper} {a : Act} {Q : Exit → Act → World → Prop} (h : Env w0 V bs) (hF : FlatB V gF ρ m) (hgd : op.guard = none) (cs : Array Value) (ty : TypeId) (n : Nat) (hb : (execOp a.eval op).run Tryz.prog V = .ok (.value (.slice (some ⟨V.heap.size,0,none⟩) n n)) (V.alloc (.cells cs ty)))
  (k : ∀ V' g,Env w0 V' ((g,cs) :: bs) → FlatB V' gF ρ m → wpList Tryz.prog ops Q rest (a.put op.dst (.slice (some ⟨g,0,none⟩) n n)) V') : wpList Tryz.prog ops Q (op :: rest) a V :=by
 refine wpList_plain hgd fun _ hK => ?_
 unfold Oper.wp
 simp only [hb]
 exact hK _ _ (k _ _ (h.push cs ty) (hF.under (below_alloc (Below.refl _ _) _)))
def intsC (l : List Int) : Array Value :=(l.map (Value.int .i64)).toArray
theorem blk_ints {V : World} {g : Nat} {l : List Int} (h : BlkAt V g (intsC l)) (hm : l.length ≤ 9223372036854775807) : Kd.C (Kd.int .i64) V (some ⟨g,0,none⟩) l.length l :=by
 refine ⟨rfl,hm,fun _ => ⟨⟨g,0,none⟩,rfl,fun j p hp => ⟨[.int .i64 p],rfl,rfl,fun i u hu => ?_⟩⟩⟩
 have hi : i = 0 :=by
  cases i with
  | zero => rfl
  | succ i => simp at hu
 subst hi
 have hu : Value.int .i64 p = u :=by simpa using hu
 subst hu
 have :=h.cell j (.int .i64 p) (by simp [intsC,hp])
 show V.cell? ((⟨g,0,none⟩ : Addr).add (j * 1 + 0)) = _
 rw [Nat.mul_one,Nat.add_zero]
 have hz : (⟨g,0,none⟩ : Addr).add j = ⟨g,j,none⟩ :=by
  by_cases h0 : j = 0
  ·subst h0;rfl
  ·simp [Addr.add];omega
 rw [hz]
 exact this
theorem Env.apart {w0 V : World} {bs : List (Nat × Array Value)} (h : Env w0 V bs) {gF : Nat} (hg : V.heap.size ≤ gF) : ∀ (j g : Nat) (cs : Array Value),bs[j]? = some (g,cs) → g ≠ gF :=fun j g cs hj he => by
 have :=h.lt hj
 omega
theorem wrUp_rng {b : List Int} (hb : ∀ x ∈ b,0 ≤ x ∧ x < 256) (a : Int) : ∀ (n : Nat),n ≤ b.length → ∀ k,0 ≤ wrUp a b n k ∧ wrUp a b n k < 256
 | 0,_,k => by unfold wrUp;decide
 | n + 1,h,k => by
  unfold wrUp wrM
  split
  ·exact rd_rng hb (by omega)
  ·exact wrUp_rng hb a n (by omega) k
def lvB : List Int :=[62,5,211,254]
def lvR : Rg :={ resetR with a :=5,pc :=2,r :=1 }
theorem lvH : frow (nx resetR (wrUp 0 lvB lvB.length (IntKind.u16.wrap (resetR.pc + 1)).toNat)) (wrUp 0 lvB lvB.length) 3 [] [] = some ([⟨1,0,0,4⟩,⟨2,1,0,3⟩],lvR) :=by kernel_rfl
theorem lv16 : refOf [16,254] = (⟨0,0,16,0,-2,2⟩,0) :=by kernel_rfl
theorem lv52 : refOf [221,52,1] = (⟨0,1,52,1,0,3⟩,0) :=by kernel_rfl
theorem llives12 {W : World} (ht : Table W) : Calls Tryz.prog 10 #[] W fun e V => e = .returned (.bool true) ∧ Below W.heap.size W V :=by
 have hE :=Aside0.mk (Env.nil W)
 have ht :=Aside0.mk ht
 have g1 : True :=trivial
 have g2 : True :=trivial
 go_enter Tryz.func10,Tryz.ntmps10
 go_upto_region 2 with (first | (go_at_call 26;refine (lreset _).mono ?_;rintro e V2 ⟨rfl,hb⟩;replace hE :=Aside0.mk (hE.out.under hb);clear hb) | ((with_reducible refine gate_bsl 25 ?_);refine wpList_bsl hE.out rfl (bytesC lvB) 5 4 (by kernel_rfl) ?_;intro V g hE';replace hE :=Aside0.mk hE';clear hE') | (go_at_call 13;refine (lnew (b :=lvB) (cp :=4) (ρ :=resetR) (a :=0) (fun V' hb' => blk_bytes ((hE.out.under hb').at_ 0 _ _ rfl).2 (by decide)) (by decide) (by decide) (by decide) (by decide) (by decide) (by decide)).mono ?_;rintro e V2 ⟨gF,rfl,hb,hgF,hF0⟩;have hne :=Aside0.mk (hE.out.apart hgF);have hle :=Aside0.mk (Nat.le_trans hE.out.size hgF);have hF :=Aside0.mk hF0;replace hE :=Aside0.mk (hE.out.under hb);clear hb hgF hF0))
 go_upto_region 5 with (first | (go_at_call 16;refine (lstep12 hF.out (wrUp_rng (by decide) 0 lvB.length (Nat.le_refl _)) (env_tab hE.out ht.out) (by decide) (by decide) (by decide) (by decide) (k :=3) (by decide) lvH).mono ?_;rintro e V2 ⟨Aq,cq,rfl,hkp,hF2⟩;replace hE :=Aside0.mk (hE.out.kpf hkp hle.out hne.out);replace hF :=Aside0.mk hF2;clear hF2 hkp;dsimp only [List.length_cons,List.length_nil]))
 go_wp2_with (first | (go_at_call 23;(try refine gate_guard (by rfl) ?_);refine (lregs hF.out).mono ?_;rintro e V2 ⟨rfl,hb⟩;replace hE :=Aside0.mk (hE.out.under hb);replace hF :=Aside0.mk (hF.out.under hb);clear hb) | ((with_reducible refine gate_dst (N :=31) rfl ?_);(try refine gate_guard (by rfl) ?_);refine wpList_val' rfl (.int .u8 5) (by kernel_rfl) ?_) | ((with_reducible refine gate_dst (N :=37) rfl ?_);(try refine gate_guard (by rfl) ?_);refine wpList_val' rfl (.int .u16 2) (by kernel_rfl) ?_) | ((with_reducible refine gate_dst (N :=41) rfl ?_);(try refine gate_guard (by rfl) ?_);refine wpList_bslF hE.out hF.out rfl (bytesC [16,254]) 5 2 (by kernel_rfl) ?_;intro V g41 hE' hF';replace hE :=Aside0.mk hE';replace hF :=Aside0.mk hF';clear hE' hF') | ((with_reducible refine gate_dst (N :=42) rfl ?_);(try refine gate_guard (by rfl) ?_);refine wpList_bslF hE.out hF.out rfl (intsC [5,3]) 3 2 (by kernel_rfl) ?_;intro V g42 hE' hF';replace hE :=Aside0.mk hE';replace hF :=Aside0.mk hF';clear hE' hF') | ((with_reducible refine gate_dst (N :=43) rfl ?_);(try refine gate_guard (by rfl) ?_);refine wpList_bslF hE.out hF.out rfl (intsC [5,8]) 3 2 (by kernel_rfl) ?_;intro V g43 hE' hF';replace hE :=Aside0.mk hE';replace hF :=Aside0.mk hF';clear hE' hF') | ((with_reducible refine gate_dst (N :=47) rfl ?_);(try refine gate_guard (by rfl) ?_);refine wpList_bslF hE.out hF.out rfl (bytesC [221,52,1]) 5 3 (by kernel_rfl) ?_;intro V g47 hE' hF';replace hE :=Aside0.mk hE';replace hF :=Aside0.mk hF';clear hE' hF') | ((with_reducible refine gate_dst (N :=48) rfl ?_);(try refine gate_guard (by rfl) ?_);refine wpList_bslF hE.out hF.out rfl (intsC [4,4,8,4,3]) 3 5 (by kernel_rfl) ?_;intro V g48 hE' hF';replace hE :=Aside0.mk hE';replace hF :=Aside0.mk hF';clear hE' hF') | ((with_reducible refine gate_dst (N :=49) rfl ?_);(try refine gate_guard (by rfl) ?_);refine wpList_bslF hE.out hF.out rfl (intsC [4,4,8,4,3]) 3 5 (by kernel_rfl) ?_;intro V g49 hE' hF';replace hE :=Aside0.mk hE';replace hF :=Aside0.mk hF';clear hE' hF') | (go_at_call 35;(try refine gate_guard (by rfl) ?_);have h9 :=g1;refine (lis (b :=[16,254]) (cb :=2) (c2 :=2) (c3 :=2) (s0 :=(ByteArray.mk #[53,51])) (s1 :=(ByteArray.mk #[53,56])) (ds0 :=[5,3]) (ds1 :=[5,8]) (fun V' hb' => blk_bytes ((hE.out.under hb').at_ 2 _ _ rfl).2 (by decide)) (by decide) (by decide +kernel) lv16 (by decide +kernel) (fun V => lof16) rfl (by decide) (by decide +kernel) rfl (by decide) (by decide +kernel) (fun V' hb' => blk_ints ((hE.out.under hb').at_ 1 _ _ rfl).2 (by decide)) (by decide) (fun V' hb' => blk_ints ((hE.out.under hb').at_ 0 _ _ rfl).2 (by decide)) (by decide) (by decide +kernel) (by decide +kernel)).mono ?_;rintro e V2 ⟨rfl,hb⟩;replace hE :=Aside0.mk (hE.out.under hb);replace hF :=Aside0.mk (hF.out.under hb);clear hb h9 g1) | (go_at_call 35;(try refine gate_guard (by rfl) ?_);have h9 :=g2;refine (lis (b :=[221,52,1]) (cb :=3) (c2 :=5) (c3 :=5) (s0 :=(ByteArray.mk #[52,52,56,52,51])) (s1 :=(ByteArray.mk #[52,52,56,52,51])) (ds0 :=[4,4,8,4,3]) (ds1 :=[4,4,8,4,3]) (fun V' hb' => blk_bytes ((hE.out.under hb').at_ 2 _ _ rfl).2 (by decide)) (by decide) (by decide +kernel) lv52 (by decide +kernel) (fun V => lof52) rfl (by decide) (by decide +kernel) rfl (by decide) (by decide +kernel) (fun V' hb' => blk_ints ((hE.out.under hb').at_ 1 _ _ rfl).2 (by decide)) (by decide) (fun V' hb' => blk_ints ((hE.out.under hb').at_ 0 _ _ rfl).2 (by decide)) (by decide) (by decide +kernel) (by decide +kernel)).mono ?_;rintro e V2 ⟨rfl,hb⟩;replace hE :=Aside0.mk (hE.out.under hb);replace hF :=Aside0.mk (hF.out.under hb);clear hb h9 g2))
 go_ret
 exact ⟨rfl,hE.out.b⟩
theorem lflatNil {W : World} {at_ v : Int} (ht : Table W) : Calls Tryz.prog 4 #[.int .u16 at_,.int .u8 v] W fun e V => e = .returned (.bool true) ∧ Below W.heap.size W V :=by
 have hE :=Aside0.mk (Env.nil W)
 have ht :=Aside0.mk ht
 go_enter Tryz.func4,Tryz.ntmps4
 go_wp2_with (first | (go_at_call 10;refine (llives12 (env_tab hE.out ht.out)).mono ?_;rintro e V2 ⟨rfl,hb⟩;replace hE :=Aside0.mk (hE.out.under hb);clear hb) | (go_at_call 16;(try refine gate_guard (by rfl) ?_);refine (lstepN (W :=_) (at_ :=at_) (v :=v)).mono ?_;rintro e V2 ⟨rfl,hb⟩;replace hE :=Aside0.mk (hE.out.under hb);clear hb) | (go_at_call 22;(try refine gate_guard (by rfl) ?_);refine (lintrN (W :=_) (at_ :=at_) (v :=v)).mono ?_;rintro e V2 ⟨rfl,hb⟩;replace hE :=Aside0.mk (hE.out.under hb);clear hb) | (go_at_call 15;(try refine gate_guard (by rfl) ?_);refine (linsN (W :=_) (at_ :=at_) (v :=v)).mono ?_;rintro e V2 ⟨rfl,hb⟩;replace hE :=Aside0.mk (hE.out.under hb);clear hb) | (go_at_call 24;(try refine gate_guard (by rfl) ?_);refine (lbyteN (W :=_) (at_ :=at_) (v :=v)).mono ?_;rintro e V2 ⟨rfl,hb⟩;replace hE :=Aside0.mk (hE.out.under hb);clear hb) | (go_at_call 25;(try refine gate_guard (by rfl) ?_);refine (lpokeN (W :=_) (at_ :=at_) (v :=v)).mono ?_;rintro e V2 ⟨rfl,hb⟩;replace hE :=Aside0.mk (hE.out.under hb);clear hb) | (go_at_call 23;(try refine gate_guard (by rfl) ?_);refine lregsN.mono ?_;rintro e V2 ⟨rfl,hb⟩;replace hE :=Aside0.mk (hE.out.under hb);clear hb) | ((with_reducible refine gate_alloc 28 ?_);refine wpList_new hE.out rfl (insC 0 0 0 0 0 0) 28 (by kernel_rfl) ?_;intro V g hE';replace hE :=Aside0.mk hE';clear hE') | ((with_reducible refine gate_store 28 ?_);refine wpList_st hE.out rfl 0 rfl 28 _ _ rfl _ rfl rfl rfl (by kernel_rfl) (insC_one _ _ _ _ _ _) ?_;intro V hE';(try dsimp only [List.set_cons_zero,List.set_cons_succ] at hE');replace hE :=Aside0.mk hE';clear hE') | ((with_reducible refine gate_bld 24 ?_);(try refine gate_guard (by rfl) ?_);refine wpList_bld24 rfl rfl (.agg zeroRg.vals) (by kernel_rfl) ?_) | ((with_reducible refine gate_bin' .eql 24 ?_);(try refine gate_guard (by rfl) ?_);refine wpList_val' rfl (.bool true) (run_eq24 _ _ _ _ _ rfl rfl rfl _) ?_))
 go_ret
 exact ⟨rfl,hE.out.b⟩
theorem flatNilRow {W : World} {a0 : Int} (w0 : (Lit.int .u16 a0).wf = true) {a1 : Int} (w1 : (Lit.int .u8 a1).wf = true) (ht : Table W) :
  Calls Tryz.prog 4 #[.int .u16 a0,.int .u8 a1] W fun e V => e = .returned (.bool true) ∧ Below W.heap.size W V :=lflatNil ht
end Go.Proofs.YtnelghpendfdmaaGreatDoor.KRow
