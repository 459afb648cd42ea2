
import Derived.Laws.Tables
import Derived.Test.YtnelghpendfdmaaGreatDoorKLd
import Derived.Test.YtnelghpendfdmaaGreatDoorHKit
namespace Go.Proofs.YtnelghpendfdmaaGreatDoor.KRow
open Go Go.RowKit Go.Proofs.YtnelghpendfdmaaGreatDoorW.PrintWords Go.Proofs.YtnelghpendfdmaaGreatDoorW.PrintLast Go.Proofs.YtnelghpendfdmaaGreatDoorW.PrintMore
open Go.Proofs.YtnelghpendfdmaaGreatDoor.HFun
set_option linter.unusedVariables false
noncomputable def c80 (ρ : Rg) : Array Value :=((ρ.vals.toList.zipIdx.foldl (fun (cs : Array Value) (x : Value × Nat) => cs.setIfInBounds x.2 x.1) zl80.toArray)).setIfInBounds 65560 (.bool true)
theorem c80_size (ρ : Rg) : (c80 ρ).size = 65561 :=by
 have h : ∀ (l : List (Value × Nat)) (cs : Array Value),(l.foldl (fun (cs : Array Value) (x : Value × Nat) => cs.setIfInBounds x.2 x.1) cs).size = cs.size :=by
  intro l
  induction l with
  | nil => intro cs;rfl
  | cons x r ih => intro cs;simp only [List.foldl_cons];rw [ih];simp
 unfold c80
 rw [Array.size_setIfInBounds,h]
 simp [zl80_len]
theorem c80_get (ρ : Rg) (k : Nat) (hk : k ≠ 65560) : (c80 ρ)[k]? = if k < 24 then ρ.vals.toList[k]? else zl80[k]? :=by
 unfold c80
 rw [Array.getElem?_setIfInBounds_ne (Ne.symm hk),foldl_set]
 have h24 : ρ.vals.toList.length = 24 :=rfl
 rw [h24]
 by_cases h : k < 24
 ·rw [if_pos ⟨Nat.zero_le _,by omega,by simp [zl80_len];omega⟩,if_pos h,Nat.sub_zero]
 ·rw [if_neg (by omega),if_neg h]
  simp
theorem c80_made (ρ : Rg) : (c80 ρ)[65560]? = some (.bool true) :=by
 have h :=c80_size ρ
 unfold c80 at h ⊢
 rw [Array.size_setIfInBounds] at h
 simp [h]
structure FlatB (V : World) (g : Nat) (ρ : Rg) (m : Nat → Int) : Prop where
 lt : g < V.heap.size
 regs : ∀ k v,ρ.vals.toList[k]? = some v → V.cell? ⟨g,k,none⟩ = some v
 mem : ∀ k,k < 65536 → V.cell? ⟨g,24 + k,none⟩ = some (.int .u8 (m k))
 made : V.cell? ⟨g,65560,none⟩ = some (.bool true)
 frz : ∀ k,V.frozen? ⟨g,k,none⟩ = false
theorem flat_new (V : World) (ρ : Rg) (ty : TypeId) : FlatB (V.alloc (.cells (c80 ρ) ty)) V.heap.size ρ (fun _ => 0) :=by
 have hB :=BlkAt.box V (c80 ρ) ty
 have hc : ∀ k v,(c80 ρ)[k]? = some v → (V.alloc (.cells (c80 ρ) ty)).cell? ⟨V.heap.size,k,none⟩ = some v :=fun k v h => hB.cell k v (by simpa using h)
 refine ⟨hB.lt,fun k v hk => hc k v ?_,fun k hk => hc _ _ ?_,hc _ _ (c80_made ρ),hB.frz⟩
 ·have h24 : ρ.vals.toList.length = 24 :=rfl
  have hlt :=(List.getElem?_eq_some_iff.1 hk).1
  rw [h24] at hlt
  rw [c80_get ρ k (by omega),if_pos hlt]
  exact hk
 ·rw [c80_get ρ _ (by omega),if_neg (by omega)]
  exact zl80_get k hk
theorem built80 (ρ : Rg) : Tryz.prog.built 80 [(0,.agg ρ.vals),(2,.bool true)] = some (c80 ρ) :=by
 unfold Program.built
 rw [info80,Tryz.underlying80]
 simp only [zero80]
 have hp : (#[{ name := "r",type :=24,offset :=0,embedded :=false,tag := "",pkgPath := "pendulum/length",byteOffset :=0 },{ name := "m",type :=78,offset :=24,embedded :=false,tag := "",pkgPath := "pendulum/length",byteOffset :=48 },{ name := "made",type :=4,offset :=65560,embedded :=false,tag := "",pkgPath := "pendulum/length",byteOffset :=65584 }] : Array Field).toList.mapM (fun f => (Tryz.prog.info? f.type).map fun i => (f.offset,i.size)) = some [(0,24),(24,65536),(65560,1)] :=by kernel_rfl
 rw [hp]
 have h0 : (Value.agg zl80.toArray).cells = zl80.toArray :=rfl
 have h1 : (Value.agg ρ.vals).cells = ρ.vals :=rfl
 have h2 : (Value.bool true).cells = #[.bool true] :=rfl
 have hs : ρ.vals.size = 24 :=rfl
 have hsz : ∀ (l : List (Value × Nat)) (cs : Array Value),(l.foldl (fun (cs : Array Value) (x : Value × Nat) => cs.setIfInBounds x.2 x.1) cs).size = cs.size :=by
  intro l
  induction l with
  | nil => intro cs;rfl
  | cons x r ih => intro cs;simp only [List.foldl_cons];rw [ih];simp
 have hf : (ρ.vals.zipIdx.foldl (fun cs x => cs.setIfInBounds (0 + x.2) x.1) zl80.toArray) = ρ.vals.toList.zipIdx.foldl (fun (cs : Array Value) (x : Value × Nat) => cs.setIfInBounds x.2 x.1) zl80.toArray :=by
  rw [← Array.foldl_toList,Array.toList_zipIdx]
  simp only [Nat.zero_add]
 simp only [h0,Instr.fill,List.getElem?_toArray,List.getElem?_cons_zero,List.getElem?_cons_succ,h1,h2,hs]
 rw [if_neg (by simp [zl80_len]),hf]
 rw [if_neg (by rw [hsz];simp [zl80_len])]
 have hg : ∀ X : Array Value,(#[Value.bool true].zipIdx.foldl (fun cs x => cs.setIfInBounds (65560 + x.2) x.1) X) = X.setIfInBounds 65560 (.bool true) :=fun X => rfl
 rw [hg,c80]
theorem run_build80 {ev : Operand → Value} {op : Oper} {x y : Operand} {ρ : Rg} (ho : op.op = .build 80 #[(0,x),(2,y)]) (hx : ev x = .agg ρ.vals) (hy : ev y = .bool true) (V : World) :
  (execOp ev op).run Tryz.prog V = .ok (.value (.agg (c80 ρ))) V :=by
 have h :=run_build (P :=Tryz.prog) V 80 #[(0,.agg ρ.vals),(2,.bool true)] (c80 ρ) (built80 ρ)
 unfold execOp
 simp only [ho]
 simp [hx,hy,h,Result.andThen]
set_option linter.unusedSimpArgs false
theorem lcheck8_bad (ρ : Rg) (W : World) (hc : (decide (ρ.im < 0) || decide (ρ.im > 2)) = true) : Calls Tryz.prog 12 #[.agg ρ.vals] W fun e V => e = .returned (.int .i64 2) ∧ Below W.heap.size W V :=(lcheck8 ρ W true hc).mono fun e V h => h
theorem lcheck8_ok (ρ : Rg) (W : World) (hc : (decide (ρ.im < 0) || decide (ρ.im > 2)) = false) : Calls Tryz.prog 12 #[.agg ρ.vals] W fun e V => e = .returned (.int .i64 0) ∧ Below W.heap.size W V :=(lcheck8 ρ W false hc).mono fun e V h => h
open Go Go.RowKit Go.Proofs.YtnelghpendfdmaaGreatDoorW.PrintWords Go.Proofs.YtnelghpendfdmaaGreatDoor.HFun
/-! rows as paths of a tree -/
def Tr.le {α : Type} : Nat → Tr α → Prop
 | _,.ret _ _ => True
 | 0,.ask _ _ _ _ _ => False
 | n + 1,.ask _ _ _ _ f => ∀ x,(f x).le n
def Tr.to : Tr Unit → To
 | .ret _ ρ => ⟨0,0,0,0,ρ.toRg,true,0⟩
 | .ask k a v t _ => ⟨k,a,v,t,zeroRg,false,0⟩
theorem told_dn {gl : List Int} {t t' : Tr Unit} (h : t.dn gl = some t') : toldOf gl (t.run gl 0) = t'.to :=by
 have h1 :=Tr.run_dn [] gl h
 rw [List.nil_append,List.length_nil] at h1
 rw [h1]
 cases t' with
 | ret v ρ => simp [Tr.res,toldOf,Tr.to]
 | ask k a v t f => rfl
/-! a block's operation as one tree whose end may go on -/
def rwP (ρ : Rg) (peek : Int) : Rw :={ toRg :=ρ,peek :=peek,x :=0,disp :=false,adr :=0 }
noncomputable def Rw.instr1 (ρ0 : Rw) (one : Bool) (op : Int) : Tr Unit :=
 let ρ :=({ ρ0 with late :=false } : Rw).fetched
 if op = 221 ∨ op = 253 then
  if one = true ∧ (ρ0.peek = 221 ∨ ρ0.peek = 237 ∨ ρ0.peek = 253) then .ret () { ρ with late :=true }
  else if op = 253 then ({ ρ with x :=2 } : Rw).second else ({ ρ with x :=1 } : Rw).second
 else if op = 203 then ρ.fetch.bind fun b ρ => (ρ.setBits (wrap64 b)).bind fun _ ρ => .ret () ρ
 else if op = 237 then ρ.fetch.bind fun b ρ => (ρ.setMore (wrap64 b)).bind fun _ ρ => .ret () ρ
 else (ρ.main (wrap64 op)).bind fun _ ρ => .ret () ρ
theorem instr_ask (ρ : Rw) (hh : ρ.halt = false) (one : Bool) : ρ.instr one = .ask 1 ρ.pc 0 4 (fun op => ρ.instr1 one op) :=by
 unfold Rw.instr Rw.fetch Rw.req
 rw [if_neg (by rw [hh];exact Bool.false_ne_true)]
 rfl
theorem instr1_one {ρ : Rw} {o : Int} (h : (o = 221 ∨ o = 253) → ¬ (ρ.peek = 221 ∨ ρ.peek = 237 ∨ ρ.peek = 253)) : ρ.instr1 true o = ρ.instr1 false o :=by
 unfold Rw.instr1
 by_cases h1 : o = 221 ∨ o = 253
 ·have n1 :=h h1
  simp only [if_pos h1,n1,and_false,if_false]
 ·simp only [if_neg h1]
theorem nx_dn {ρ : Rg} (hh : ρ.halt = false) {peek o : Int} (h : (o = 221 ∨ o = 253) → ¬ (peek = 221 ∨ peek = 237 ∨ peek = 253)) (g : List Int) (T' : Tr Unit) (hd : ((rwP ρ peek).instr false).dn (o :: g) = some T') : nx ρ peek (o :: g) = T'.to :=by
 unfold nx
 have hh' : (rwP ρ peek).halt = false :=hh
 rw [instr_ask _ hh'] at hd
 have hd' : ((rwP ρ peek).instr1 false o).dn g = some T' :=hd
 have e : ((rwP ρ peek).instr (((((o :: g).length : Nat) : Int)) == 1)).dn (o :: g) = some T' :=by
  rw [instr_ask _ hh']
  show ((rwP ρ peek).instr1 _ o).dn g = some T'
  cases (((((o :: g).length : Nat) : Int)) == 1) with
  | false => exact hd'
  | true => rw [instr1_one (ρ :=rwP ρ peek) h];exact hd'
 exact told_dn e
/-! the number of fetches -/
theorem FlatB.same {V V' : World} {g : Nat} {ρ : Rg} {m : Nat → Int} (h : FlatB V g ρ m) (hs : V.heap.size ≤ V'.heap.size) (hb : V'.heap[g]? = V.heap[g]?) : FlatB V' g ρ m :=by
 have hc : ∀ k v,V.cell? ⟨g,k,none⟩ = some v → V'.cell? ⟨g,k,none⟩ = some v :=fun k v hv => (World.cell?_of_block (w :=V) (a :=⟨g,k,none⟩) hb).trans hv
 exact ⟨Nat.lt_of_lt_of_le h.lt hs,fun k v hv => hc k v (h.regs k v hv),fun k hk => hc _ _ (h.mem k hk),hc _ _ h.made,fun k => by
  rw [World.frozen?_of_block (w :=V) (a :=⟨g,k,none⟩) hb]
  exact h.frz k⟩
theorem FlatB.under {V V' : World} {g : Nat} {ρ : Rg} {m : Nat → Int} (h : FlatB V g ρ m) (hb : Below V.heap.size V V') : FlatB V' g ρ m :=h.same hb.size (hb.block g h.lt)
def wrM (m : Nat → Int) (a : Nat) (v : Int) : Nat → Int :=fun k => if k = a then v else m k
theorem FlatB.setMem {V : World} {g : Nat} {ρ : Rg} {m : Nat → Int} (h : FlatB V g ρ m) {a : Nat} (ha : a < 65536) (v : Int) : FlatB (V.setCell ⟨g,24 + a,none⟩ (.int .u8 v)) g ρ (wrM m a v) :=by
 have hkp :=(Kp.refl g V).setCell (24 + a) (.int .u8 v)
 have hne : ∀ k u,k ≠ 24 + a → V.cell? ⟨g,k,none⟩ = some u → (V.setCell ⟨g,24 + a,none⟩ (.int .u8 v)).cell? ⟨g,k,none⟩ = some u :=fun k u hk hu =>
  (World.cell?_setCell_other V _ _ _ (by simp only [ne_eq,Addr.mk.injEq,true_and,and_true];exact Ne.symm hk)).trans hu
 have h24 : ρ.vals.toList.length = 24 :=rfl
 refine ⟨Nat.lt_of_lt_of_le h.lt hkp.size,fun k u hk => hne k u ?_ (h.regs k u hk),fun k hk => ?_,hne _ _ (by omega) h.made,fun k => (World.frozen?_setCell _ _ _ _).trans (h.frz k)⟩
 ·have :=(List.getElem?_eq_some_iff.1 hk).1
  omega
 ·unfold wrM
  by_cases e : k = a
  ·subst e
   rw [if_pos rfl]
   exact World.cell?_setCell_same V _ _ (h.mem k hk)
  ·rw [if_neg e]
   exact hne _ _ (by omega) (h.mem k hk)
theorem FlatB.setRegs {V : World} {g : Nat} {ρ : Rg} {m : Nat → Int} (h : FlatB V g ρ m) (σ : Rg) : FlatB (V.setCells g 0 σ.vals.toList) g σ m :=by
 have hkp :=Kp.setCells (g :=g) 0 σ.vals.toList V (Kp.refl g V)
 have h24 : σ.vals.toList.length = 24 :=rfl
 have hth : V.there g 0 σ.vals.toList.length :=fun j hj => by
  rw [h24] at hj
  obtain ⟨u,hu⟩ : ∃ u,ρ.vals.toList[j]? = some u :=⟨_,List.getElem?_eq_getElem (by rw [show ρ.vals.toList.length = 24 from rfl];exact hj)⟩
  rw [Nat.zero_add]
  exact ⟨by rw [h.regs j u hu];rfl,h.frz j⟩
 have hr :=World.rangeAt_setCells_same V g 0 σ.vals.toList hth
 have hout : ∀ k u,24 ≤ k → V.cell? ⟨g,k,none⟩ = some u → (V.setCells g 0 σ.vals.toList).cell? ⟨g,k,none⟩ = some u :=fun k u hk hu => (World.cell?_setCells_out g σ.vals.toList 0 V ⟨g,k,none⟩ (fun _ _ => .inr (by rw [h24];simpa using hk))).trans hu
 exact ⟨Nat.lt_of_lt_of_le h.lt hkp.size,fun k u hk => by have :=hr k u hk;rwa [Nat.zero_add] at this,fun k hk => hout _ _ (by omega) (h.mem k hk),hout _ _ (by omega) h.made,fun k => (World.frozen?_setCells _ _ _ _ _).trans (h.frz k)⟩
structure Upd (f : World → World) (g : Nat) : Prop where
 os : ∀ w,(f w).os = w.os
 tape : ∀ w,(f w).tape = w.tape
 output : ∀ w,(f w).output = w.output
 size : ∀ w,(f w).heap.size = w.heap.size
 other : ∀ w k,k ≠ g → (f w).heap[k]? = w.heap[k]?
 at_ : ∀ w w',w.heap[g]? = w'.heap[g]? → (f w).heap[g]? = (f w').heap[g]?
theorem Upd.cell (g k : Nat) (v : Value) : Upd (fun w => w.setCell ⟨g,k,none⟩ v) g :=by
 refine ⟨fun w => rfl,fun w => rfl,fun w => rfl,fun w => by simp [World.setCell],fun w i hn => Below.heap_setCell w ⟨g,k,none⟩ v i hn,fun w w' h => ?_⟩
 simp [World.setCell,Array.getElem?_modify,h]
theorem Upd.comp {f f' : World → World} {g : Nat} (h : Upd f g) (h' : Upd f' g) : Upd (fun w => f' (f w)) g :=
 ⟨fun w => (h'.os _).trans (h.os w),fun w => (h'.tape _).trans (h.tape w),fun w => (h'.output _).trans (h.output w),fun w => (h'.size _).trans (h.size w),fun w k hk => (h'.other _ k hk).trans (h.other w k hk),fun w w' e => h'.at_ _ _ (h.at_ w w' e)⟩
theorem Upd.cells (g : Nat) : ∀ (vs : List Value) (o : Nat),Upd (fun w => w.setCells g o vs) g
 | [],o => ⟨fun w => rfl,fun w => rfl,fun w => rfl,fun w => rfl,fun w k hk => rfl,fun w w' e => e⟩
 | v :: r,o => (Upd.cell g o v).comp (Upd.cells g r (o + 1))
theorem Below.upd {f : World → World} {g B : Nat} (u : Upd f g) {w V : World} (h : Below B w V) (hg : g < B) : Below B (f w) (f V) :=
 ⟨by rw [u.os,u.os];exact h.os,by rw [u.tape,u.tape];exact h.tape,by rw [u.output,u.output];exact h.output,by rw [u.size,u.size];exact h.size,fun k hk => by
  by_cases e : k = g
  ·subst e
   exact u.at_ _ _ (h.block k hk)
  ·rw [u.other _ _ e,u.other _ _ e]
   exact h.block k hk⟩
theorem Env.upd {f : World → World} {g : Nat} (u : Upd f g) {w0 V : World} {bs : List (Nat × Array Value)} (h : Env w0 V bs) (hg : g < w0.heap.size) : Env (f w0) (f V) bs :=by
 have hsz :=u.size w0
 refine ⟨by rw [hsz];exact Below.upd u h.b hg,fun j g' cs hj => ?_,h.ne⟩
 obtain ⟨h1,h2⟩ :=h.at_ j g' cs hj
 exact ⟨by omega,h2.same (by rw [u.size];exact Nat.le_refl _) (u.other _ _ (by omega))⟩
theorem EnvR.upd {f : World → World} {g : Nat} (u : Upd f g) {w0 V : World} {bs : List (Nat × Array Value)} {vo vg : Value} {out : List S56} {got : List Int} (h : EnvR w0 V bs vo out vg got) (hg : g < w0.heap.size) : EnvR (f w0) (f V) bs vo out vg got :=by
 have hsz :=u.size w0
 refine ⟨h.env.upd u hg,?_,?_⟩
 ·rw [hsz]
  exact Kd.R_mono (Kd.R_step (Kd.R_bound h.o) (fun k hk hlt => u.other _ _ (by have :=hk.2.1;omega))) (fun k hk => hk.1)
 ·rw [hsz]
  exact Kd.R_mono (Kd.R_step (Kd.R_bound h.g) (fun k hk hlt => u.other _ _ (by have :=hk.2.1;omega))) (fun k hk => hk.1)
end Go.Proofs.YtnelghpendfdmaaGreatDoor.KRow
