/-
 PROVED: what a walk knows of the boxes that it made itself (Env), and its steps at an allocation, a load, a store.
-/
import Derived.Test.YtnelghpendfdmaaGreatDoorKTb
import Derived.Test.YtnelghpendfdmaaGreatDoorKMk
namespace Go.Proofs.YtnelghpendfdmaaGreatDoor.KRow
open Go Go.RowKit Go.Proofs.YtnelghpendfdmaaGreatDoorW.PrintWords Go.Proofs.YtnelghpendfdmaaGreatDoorW.PrintLast Go.Proofs.YtnelghpendfdmaaGreatDoorW.PrintMore
open Go.Proofs.YtnelghpendfdmaaGreatDoor.HFun
set_option linter.unusedVariables false
set_option linter.unusedSimpArgs false
structure Env (w0 V : World) (bs : List (Nat × Array Value)) : Prop where
 b : Below w0.heap.size w0 V
 at_ : ∀ (j g : Nat) (cs : Array Value),bs[j]? = some (g,cs) → w0.heap.size ≤ g ∧ BlkAt V g cs
 ne : ∀ (i j g : Nat) (cs cs' : Array Value),bs[i]? = some (g,cs) → bs[j]? = some (g,cs') → i = j
section
variable {w0 V V' : World} {bs : List (Nat × Array Value)}
theorem Env.nil (w : World) : Env w w [] :=⟨Below.refl _ _,fun j g cs h => by simp at h,fun i j g cs cs' h => by simp at h⟩
theorem Env.size (h : Env w0 V bs) : w0.heap.size ≤ V.heap.size :=h.b.size
theorem Env.lt (h : Env w0 V bs) {j g : Nat} {cs : Array Value} (hj : bs[j]? = some (g,cs)) : g < V.heap.size :=(h.at_ j g cs hj).2.lt
theorem Env.under (h : Env w0 V bs) (hb : Below V.heap.size V V') : Env w0 V' bs :=
 ⟨h.b.trans (hb.mono h.b.size),fun j g cs hj => ⟨(h.at_ j g cs hj).1,(h.at_ j g cs hj).2.under hb⟩,h.ne⟩
theorem Env.push (h : Env w0 V bs) (cs : Array Value) (ty : TypeId) : Env w0 (V.alloc (.cells cs ty)) ((V.heap.size,cs) :: bs) :=by
 have hu :=h.under (below_alloc (Below.refl V.heap.size V) (.cells cs ty))
 refine ⟨hu.b,fun j g cs' hj => ?_,fun i j g c1 c2 hi hj => ?_⟩
 ·cases j with
  | zero => simp only [List.getElem?_cons_zero,Option.some.injEq,Prod.mk.injEq] at hj;obtain ⟨rfl,rfl⟩ :=hj;exact ⟨h.size,BlkAt.box V cs ty⟩
  | succ j => exact hu.at_ j g cs' (by simpa using hj)
 ·cases i with
  | zero =>
   simp only [List.getElem?_cons_zero,Option.some.injEq,Prod.mk.injEq] at hi
   cases j with
   | zero => rfl
   | succ j => have :=h.lt (j :=j) (g :=g) (cs :=c2) (by simpa using hj);omega
  | succ i =>
   cases j with
   | zero =>
    simp only [List.getElem?_cons_zero,Option.some.injEq,Prod.mk.injEq] at hj
    have :=h.lt (j :=i) (g :=g) (cs :=c1) (by simpa using hi);omega
   | succ j => exact congrArg (· + 1) (h.ne i j g c1 c2 (by simpa using hi) (by simpa using hj))
theorem Env.put (h : Env w0 V bs) {i g : Nat} {cs cs' : Array Value} (hi : bs[i]? = some (g,cs)) (hk : Kp g V V') (hc : BlkAt V' g cs') : Env w0 V' (bs.set i (g,cs')) :=by
 have hlt : i < bs.length :=(List.getElem?_eq_some_iff.1 hi).1
 have hfst : ∀ (j g' : Nat) (c : Array Value),(bs.set i (g,cs'))[j]? = some (g',c) → ∃ c0,bs[j]? = some (g',c0) :=fun j g' c hj => by
  rw [List.getElem?_set] at hj
  by_cases e : i = j
  ·subst e
   simp only [if_true,hlt,Option.some.injEq,Prod.mk.injEq] at hj
   obtain ⟨rfl,rfl⟩ :=hj
   exact ⟨cs,hi⟩
  ·rw [if_neg e] at hj;exact ⟨c,hj⟩
 refine ⟨h.b.trans (hk.below h.size (h.at_ i g cs hi).1),fun j g' c hj => ?_,fun a b g' c1 c2 ha hb => ?_⟩
 ·obtain ⟨c0,hj0⟩ :=hfst j g' c hj
  refine ⟨(h.at_ j g' c0 hj0).1,?_⟩
  rw [List.getElem?_set] at hj
  by_cases e : i = j
  ·subst e
   simp only [if_true,hlt,Option.some.injEq,Prod.mk.injEq] at hj
   obtain ⟨rfl,rfl⟩ :=hj
   exact hc
  ·rw [if_neg e] at hj
   exact (h.at_ j g' c hj).2.kp hk (fun he => e (h.ne i j g cs c hi (he ▸ hj)))
 ·obtain ⟨c3,h3⟩ :=hfst a g' c1 ha
  obtain ⟨c4,h4⟩ :=hfst b g' c2 hb
  exact h.ne a b g' c3 c4 h3 h4
theorem Env.drewN (h : Env w0 V bs) (m : Nat) : Env w0 (V.drewN m) bs :=h.under (pw_below_drewN (Below.refl _ _) m)
theorem Env.drew (h : Env w0 V bs) : Env w0 V.drew bs :=h.drewN 1
variable {ops : Array Oper} {rest : List Oper} {op : Oper} {a : Act} {Q : Exit → Act → World → Prop}
theorem zab (h : Env w0 V bs) (hgd : op.guard = none) (cs : Array Value) (ty : TypeId) (hb : (execOp a.eval op).run Tryz.prog V = .ok (.value (.pointer (some ⟨V.heap.size,0,none⟩))) (V.alloc (.cells cs ty)))
  (k : ∀ V' g,Env w0 V' ((g,cs) :: bs) → wpList Tryz.prog ops Q rest (a.put op.dst (.pointer (some ⟨g,0,none⟩))) V') : wpList Tryz.prog ops Q (op :: rest) a V :=by
 refine wpList_plain hgd fun _ hK => ?_
 unfold Oper.wp
 simp only [hb]
 exact hK _ _ (k _ _ (h.push cs ty))
theorem wpList_bsl (h : Env w0 V bs) (hgd : op.guard = none) (cs : Array Value) (ty : TypeId) (n : Nat) (hb : (execOp a.eval op).run Tryz.prog V = .ok (.value (.slice (some ⟨V.heap.size,0,none⟩) n n)) (V.alloc (.cells cs ty)))
  (k : ∀ V' g,Env w0 V' ((g,cs) :: bs) → wpList Tryz.prog ops Q rest (a.put op.dst (.slice (some ⟨g,0,none⟩) n n)) V') : wpList Tryz.prog ops Q (op :: rest) a V :=by
 refine wpList_plain hgd fun _ hK => ?_
 unfold Oper.wp
 simp only [hb]
 exact hK _ _ (k _ _ (h.push cs ty))
theorem zaf (h : Env w0 V bs) (hgd : op.guard = none) (i : Nat) {g : Nat} {cs : Array Value} (hi : bs[i]? = some (g,cs)) (ty : TypeId) (x : Operand) (ho : op.op = .load ty x)
  (hx : a.eval x = .pointer (some ⟨g,0,none⟩)) (hr : ∀ (W : World),W.rangeAt g 0 cs.toList → (Instr.loadAt ty (.pointer (some ⟨g,0,none⟩))).run Tryz.prog W = .ok (.agg cs) W) (k : wpList Tryz.prog ops Q rest (a.put op.dst (.agg cs)) V) : wpList Tryz.prog ops Q (op :: rest) a V :=by
 refine wpList_plain hgd fun _ hK => ?_
 have :=hr V (h.at_ i g cs hi).2.range
 unfold Oper.wp execOp
 simp only [ho,hx,this,Sem.run_bind,Sem.run_pure,Result.andThen_ok]
 exact hK _ _ k
theorem ld24 (g : Nat) (ρ : Rg) (W : World) (h : W.rangeAt g 0 ρ.vals.toList) : (Instr.loadAt 24 (.pointer (some ⟨g,0,none⟩))).run Tryz.prog W = .ok (.agg ρ.vals) W :=run_loadAt_mid (P :=Tryz.prog) W g 0 24 ρ.vals.toList _ h Tryz.underlying24 rfl info24
theorem ld56 (g : Nat) (k a v t : Int) (W : World) (h : W.rangeAt g 0 (reqC k a v t).toList) : (Instr.loadAt 56 (.pointer (some ⟨g,0,none⟩))).run Tryz.prog W = .ok (.agg (reqC k a v t)) W :=run_loadAt_mid (P :=Tryz.prog) W g 0 56 (reqC k a v t).toList _ h Tryz.underlying56 rfl info56
theorem zac (h : Env w0 V bs) (hgd : op.guard = none) (i : Nat) {g : Nat} {cs : Array Value} (hi : bs[i]? = some (g,cs)) (ty : TypeId) (x y : Operand) (ho : op.op = .store ty x y) (cs' : Array Value)
  (hx : a.eval x = .pointer (some ⟨g,0,none⟩)) (hy : a.eval y = .agg cs') (hsz : cs'.size = cs.size) (hinf : (Tryz.prog.info? ty).map (·.size) = some cs'.size) (hall : cs'.all (·.oneCell') = true)
  (k : ∀ V',Env w0 V' (bs.set i (g,cs')) → wpList Tryz.prog ops Q rest (a.put op.dst undef) V') : wpList Tryz.prog ops Q (op :: rest) a V :=
 zbn (h.at_ i g cs hi).2 hgd ty x y ho cs' hx hy hsz hinf hall (fun V' hk hc => k V' (h.put hi hk hc))
theorem zau (h : Env w0 V bs) (hgd : op.guard = none) (i : Nat) {g : Nat} {cs : Array Value} (hi : bs[i]? = some (g,cs)) (ty : TypeId) (x y : Operand) (ho : op.op = .store ty x y) (k0 : Nat) (v : Value)
  (hx : a.eval x = .pointer (some ⟨g,k0,none⟩)) (hy : a.eval y = v) (hinf : (Tryz.prog.info? ty).map (·.size) = some 1) (hvc : v.cells = #[v]) (h1 : v.oneCell' = true) (hlt : k0 < cs.size)
  (k : ∀ V',Env w0 V' (bs.set i (g,cs.setIfInBounds k0 v)) → wpList Tryz.prog ops Q rest (a.put op.dst undef) V') : wpList Tryz.prog ops Q (op :: rest) a V :=by
 refine wpList_plain hgd fun _ hK => ?_
 have hB :=(h.at_ i g cs hi).2
 obtain ⟨old,hold⟩ : ∃ u,cs.toList[k0]? = some u :=⟨_,List.getElem?_eq_getElem (by simpa using hlt)⟩
 have hrun :=zbf (W :=V) (g :=g) hinf v k0 hvc h1 (by rw [hB.cell _ _ hold];rfl) (hB.frz _)
 unfold Oper.wp execOp
 simp only [ho,hx,hy,Instr.storeAt,Instr.sureAddr,Sem.run_bind,Sem.run_pure,Result.andThen_ok,hrun]
 have hkp :=(Kp.refl g V).setCell k0 v
 refine hK _ _ (k _ (h.put hi hkp ⟨Nat.lt_of_lt_of_le hB.lt hkp.size,fun k u hu => ?_,fun k => (World.frozen?_setCell _ _ _ _).trans (hB.frz k)⟩))
 rw [Array.toList_setIfInBounds,List.getElem?_set] at hu
 by_cases e : k0 = k
 ·subst e
  have hl : k0 < cs.toList.length :=by simpa using hlt
  simp only [if_true,hl,Option.some.injEq] at hu
  subst hu
  exact World.cell?_setCell_same V _ _ (hB.cell k0 _ hold)
 ·rw [if_neg e] at hu
  exact (World.cell?_setCell_other V _ _ _ (by simp [e])).trans (hB.cell k u hu)
end
/-- Bytes in a box of one's own are a row that is read. -/
def bytesC (l : List Int) : Array Value :=(l.map (Value.int .u8)).toArray
theorem blk_bytes {V : World} {g : Nat} {l : List Int} (h : BlkAt V g (bytesC l)) (hm : l.length ≤ 9223372036854775807) : Kd.C (Kd.int .u8) V (some ⟨g,0,none⟩) l.length l :=by
 refine ⟨rfl,hm,fun _ => ⟨⟨g,0,none⟩,rfl,fun j p hp => ⟨[.int .u8 p],rfl,rfl,fun i u hu => ?_⟩⟩⟩
 have hi : i = 0 :=by
  cases i with
  | zero => rfl
  | succ i => simp at hu
 subst hi
 have hu : Value.int .u8 p = u :=by simpa using hu
 subst hu
 have :=h.cell j (.int .u8 p) (by simp [bytesC,hp])
 show V.cell? ((⟨g,0,none⟩ : Addr).add (j * 1 + 0)) = _
 rw [Nat.mul_one,Nat.add_zero]
 have hz : (⟨g,0,none⟩ : Addr).add j = ⟨g,j,none⟩ :=by
  by_cases h0 : j = 0
  ·subst h0;rfl
  ·simp [Addr.add];omega
 rw [hz]
 exact this
theorem gate_box (ty : TypeId) {P : Program} {ops : Array Oper} {Q : Exit → Act → World → Prop} {W : World} {rest : List Oper} {d x t p af gd a} (h : wpList P ops Q ({ dst :=d,op :=.box ty x,type :=t,pos :=p,after :=af,guard :=gd } :: rest) a W) : wpList P ops Q ({ dst :=d,op :=.box ty x,type :=t,pos :=p,after :=af,guard :=gd } :: rest) a W :=h
theorem gate_alloc (ty : TypeId) {P : Program} {ops : Array Oper} {Q : Exit → Act → World → Prop} {W : World} {rest : List Oper} {d t p af gd a} (h : wpList P ops Q ({ dst :=d,op :=.alloc ty,type :=t,pos :=p,after :=af,guard :=gd } :: rest) a W) : wpList P ops Q ({ dst :=d,op :=.alloc ty,type :=t,pos :=p,after :=af,guard :=gd } :: rest) a W :=h
theorem gate_bsl (ty : TypeId) {P : Program} {ops : Array Oper} {Q : Exit → Act → World → Prop} {W : World} {rest : List Oper} {d n xs t p af gd a} (h : wpList P ops Q ({ dst :=d,op :=.buildSlice ty n xs,type :=t,pos :=p,after :=af,guard :=gd } :: rest) a W) : wpList P ops Q ({ dst :=d,op :=.buildSlice ty n xs,type :=t,pos :=p,after :=af,guard :=gd } :: rest) a W :=h
theorem wpList_load_blk {ops : Array Oper} {rest : List Oper} {op : Oper} {a : Act} {Q : Exit → Act → World → Prop} {V : World} {g : Nat} {ρ : Rg} (h : BlkAt V g ρ.vals) (hgd : op.guard = none) (x : Operand) (ho : op.op = .load 24 x)
  (hx : a.eval x = .pointer (some ⟨g,0,none⟩)) (k : wpList Tryz.prog ops Q rest (a.put op.dst (.agg ρ.vals)) V) : wpList Tryz.prog ops Q (op :: rest) a V :=
 wpList_load_mid hgd 24 x ho g 0 hx ρ.vals.toList _ h.range Tryz.underlying24 rfl info24 k
theorem wpList_bld {ops : Array Oper} {rest : List Oper} {op : Oper} {a : Act} {Q : Exit → Act → World → Prop} {V : World} (hgd : op.guard = none) {parts : Array (Nat × Operand)} (ho : op.op = .build 91 parts) (v : Value) (hb : (execOp a.eval op).run Tryz.prog V = .ok (.value v) V)
  (k : wpList Tryz.prog ops Q rest (a.put op.dst v) V) : wpList Tryz.prog ops Q (op :: rest) a V :=by
 refine wpList_plain hgd fun _ hK => ?_
 unfold Oper.wp
 simp only [hb]
 exact hK _ _ k
structure NextAt (W V : World) (ρ : Rg) : Prop where
 b : Below W.heap.size W V
 s : BlkAt V W.heap.size ρ.vals
 q : BlkAt V (W.heap.size + 1) (reqC 0 0 0 0)
 z : BlkAt V (W.heap.size + 1 + 1) zeroRg.vals
theorem genNext {P : World → Prop} {W : World} {ρ : Rg} (k : ∀ V,NextAt W V ρ → P V) :
  P (((W.alloc (.cells ρ.vals 24)).alloc (.cells (reqC 0 0 0 0) 56)).alloc (.cells zeroRg.vals 24)) :=by
 have b1 :=below_alloc (Below.refl W.heap.size W) (.cells ρ.vals 24)
 have b2 :=below_alloc b1 (.cells (reqC 0 0 0 0) 56)
 have b3 :=below_alloc b2 (.cells zeroRg.vals 24)
 have up : ∀ (V : World) (o : Obj),Below V.heap.size V (V.alloc o) :=fun V o => below_alloc (Below.refl _ _) o
 refine k _ ⟨b3,?_,?_,?_⟩
 ·exact ((BlkAt.box W _ _).under (up _ _)).under (up _ _)
 ·have :=(BlkAt.box (W.alloc (.cells ρ.vals 24)) (reqC 0 0 0 0) 56).under (up _ (.cells zeroRg.vals 24))
  simpa using this
 ·have :=BlkAt.box ((W.alloc (.cells ρ.vals 24)).alloc (.cells (reqC 0 0 0 0) 56)) zeroRg.vals 24
  simpa using this
theorem rowBox {W V : World} {A : Option Addr} {gl : List Int} {cp : Nat} {ρ : Rw} (hb : Below W.heap.size W V) (hG : ∀ V,Below W.heap.size W V → Kd.C (Kd.int .u8) V A gl.length gl) (hcp : gl.length ≤ cp) (hr : ∀ x ∈ gl,0 ≤ x ∧ x < 256) (ht : Table W) :
  RowAt (V.alloc (.cells (ρ.cells A gl cp 0).toArray 91)) V.heap.size A gl cp 0 ρ :=by
 have hx :=BlkAt.box V (ρ.cells A gl cp 0).toArray 91
 have hs :=hb.size
 have hl :=ht.lt
 refine ⟨fun k v hv => hx.cell k v (by simpa using hv),hx.frz,fun W' hk => hG W' (kp_low (below_alloc hb _) hk hs (by simp;omega)),hcp,hr,ht.below (below_alloc hb _) hl,by omega⟩
set_option maxHeartbeats 16000000 in
set_option maxRecDepth 100000 in
theorem nextAll {W : World} {A : Option Addr} {gl : List Int} {cp : Nat} {ρ : Rg} {peek : Int} (hG : ∀ V,Below W.heap.size W V → Kd.C (Kd.int .u8) V A gl.length gl) (hcp : gl.length ≤ cp) (hr : ∀ x ∈ gl,0 ≤ x ∧ x < 256) (ht : Table W) (i0 : 0 ≤ ρ.im) (i2 : ρ.im ≤ 2) :
  Calls Tryz.prog 29 #[.agg ρ.vals,.slice A gl.length cp,.int .u8 peek] W fun e V => e = .returned (toldOf gl (Tr.run gl (({ toRg :=ρ,peek :=peek,x :=0,disp :=false,adr :=0 } : Rw).instr (((gl.length : Nat) : Int) == 1)) 0)).val ∧ Below W.heap.size W V :=by
 have hG :=Aside0.mk hG
 have i0 :=Aside0.mk i0
 have i2 :=Aside0.mk i2
 have hr :=Aside0.mk hr
 go_enter Tryz.func29,Tryz.ntmps29
 go_upto_region 1 with (fail)
 refine genNext (P :=fun V => Code.wp _ _ _ _ V) (fun V hN => ?_)
 replace hN :=Aside0.mk hN
 go_wp2_with (first | ((with_reducible refine gate_load 24 ?_);refine wpList_load_blk hN.out.s rfl _ rfl rfl ?_) | refine wpList_bld rfl rfl (.agg (({ toRg :=ρ,peek :=peek,x :=0,disp :=false,adr :=0 } : Rw).cells A gl cp 0).toArray) (by kernel_rfl) ?_ | (go_at_call 50;refine (told51 (rowBox hN.out.b hG.out hcp hr.out ht) i0.out i2.out (fun _ h => instr h)).mono ?_;rintro e V2 ⟨rfl,hk⟩;have hs :=hN.out.b.size;have hq :=Aside0.mk ((hN.out.q.under (below_alloc (Below.refl _ _) _)).kp hk (by have :=hN.out.q.lt;omega));have hz :=Aside0.mk ((hN.out.z.under (below_alloc (Below.refl _ _) _)).kp hk (by have :=hN.out.z.lt;omega));have hB :=Aside0.mk (kp_low (below_alloc hN.out.b _) hk hs (by simp;omega));clear hk hN;generalize hto : toldOf gl _ = c;dsimp only [To.val]) | ((first | ((with_reducible refine gate_store 56 ?_);refine zbn hq.out rfl 56 _ _ rfl (reqC c.k c.a c.v c.t) rfl rfl rfl (by kernel_rfl) (reqC_one _ _ _ _) ?_;intro V hk hc;replace hB :=Aside0.mk (kp_low hB.out hk (by omega) hB.out.size);replace hz :=Aside0.mk (hz.out.kp hk (by omega));replace hq :=Aside0.mk hc) | ((with_reducible refine gate_store 24 ?_);refine zbn hz.out rfl 24 _ _ rfl c.s.vals rfl rfl rfl (by kernel_rfl) (zcb _) ?_;intro V hk hc;replace hB :=Aside0.mk (kp_low hB.out hk (by omega) hB.out.size);replace hq :=Aside0.mk (hq.out.kp hk (by omega));replace hz :=Aside0.mk hc));clear hk hc))
 have r1 :=run_loadVar_mid (P :=Tryz.prog) _ (W.heap.size + 1) 0 56 (reqC c.k c.a c.v c.t).toList _ hq.out.range Tryz.underlying56 rfl info56
 have r2 :=run_loadVar_mid (P :=Tryz.prog) _ (W.heap.size + 1 + 1) 0 24 c.s.vals.toList _ hz.out.range Tryz.underlying24 rfl info24
 refine bodyPost_ret (v :=c.val) ?_ rfl ⟨by rw [hto],hB.out⟩
 simp [results,Tryz.results29,asAddr,r1,r2,To.val]
theorem env_tab {w0 V : World} {bs : List (Nat × Array Value)} (h : Env w0 V bs) (ht : Table w0) : Table V := ht.below h.b ht.lt
noncomputable def nx (ρ : Rg) (peek : Int) (gl : List Int) : To := toldOf gl (Tr.run gl (({ toRg := ρ, peek := peek, x := 0, disp := false, adr := 0 } : Rw).instr (((gl.length : Nat) : Int) == 1)) 0)
theorem Env.two {w0 V : World} {bs : List (Nat × Array Value)} (h : Env w0 V bs) {i j : Nat} {x y : Nat × Array Value} (hi : bs[i]? = some x) (hj : bs[j]? = some y) (hij : i ≠ j) : Env w0 V [x, y] := by
  refine ⟨h.b, fun k g cs hk => ?_, fun a b g c1 c2 ha hb => ?_⟩
  · match k, hk with
    | 0, hk => obtain rfl : x = (g, cs) := by simpa using hk
               exact h.at_ i g cs hi
    | 1, hk => obtain rfl : y = (g, cs) := by simpa using hk
               exact h.at_ j g cs hj
  · match a, b, ha, hb with
    | 0, 0, _, _ => rfl
    | 1, 1, _, _ => rfl
    | 0, 1, ha, hb => obtain rfl : x = (g, c1) := by simpa using ha
                      obtain rfl : y = (g, c2) := by simpa using hb
                      exact absurd (h.ne i j g c1 c2 hi hj) hij
    | 1, 0, ha, hb => obtain rfl : y = (g, c1) := by simpa using ha
                      obtain rfl : x = (g, c2) := by simpa using hb
                      exact absurd (h.ne i j g c2 c1 hi hj) hij
theorem Env.run {w0 V : World} {bs : List (Nat × Array Value)} (h : Env w0 V bs) (i : Nat) {op : Oper} {a : Act} {g : Nat} {cs : Array Value} (hi : bs[i]? = some (g, cs)) {ty : TypeId} {x : Operand} (ho : op.op = .load ty x)
    (hx : a.eval x = .pointer (some ⟨g, 0, none⟩)) (hr : ∀ (W : World), W.rangeAt g 0 cs.toList → (Instr.loadAt ty (.pointer (some ⟨g, 0, none⟩))).run Tryz.prog W = .ok (.agg cs) W) : (execOp a.eval op).run Tryz.prog V = .ok (.value (.agg cs)) V := by
  have := hr V (h.at_ i g cs hi).2.range
  unfold execOp
  simp only [ho, hx, this, Sem.run_bind, Sem.run_pure, Result.andThen_ok]
theorem gate_bld (ty : TypeId) {P : Program} {ops : Array Oper} {Q : Exit → Act → World → Prop} {W : World} {rest : List Oper} {d xs t p af gd a} (h : wpList P ops Q ({ dst := d, op := .build ty xs, type := t, pos := p, after := af, guard := gd } :: rest) a W) : wpList P ops Q ({ dst := d, op := .build ty xs, type := t, pos := p, after := af, guard := gd } :: rest) a W := h
theorem zao {ops : Array Oper} {rest : List Oper} {op : Oper} {a : Act} {Q : Exit → Act → World → Prop} {V : World} (hgd : op.guard = none) {ty : TypeId} {parts : Array (Nat × Operand)} (ho : op.op = .build ty parts) (v : Value) (hb : (execOp a.eval op).run Tryz.prog V = .ok (.value v) V)
    (k : wpList Tryz.prog ops Q rest (a.put op.dst v) V) : wpList Tryz.prog ops Q (op :: rest) a V := by
  refine wpList_plain hgd fun _ hK => ?_
  unfold Oper.wp
  simp only [hb]
  exact hK _ _ k
def resetR : Rg := { a := 255, f := 255, b := 0, c := 0, d := 0, e := 0, h := 0, l := 0, i := 0, r := 0, ix := 0, iy := 0, sp := 65535, pc := 0, wz := 0, af := 65535, bc := 0, de := 0, hl := 0, ff1 := false, ff2 := false, im := 0, halt := false, late := false }
theorem lreset (W : World) : Calls Tryz.prog 26 #[] W fun e V => e = .returned (.agg resetR.vals) ∧ Below W.heap.size W V := by
  have hE := Aside0.mk (Env.nil W)
  go_enter Tryz.func26, Tryz.ntmps26
  go_wp2_with (first | ((with_reducible refine gate_alloc 24 ?_); refine zab hE.out rfl (zeroRg.vals) 24 (by kernel_rfl) ?_; intro V g hE'; replace hE := Aside0.mk hE'; clear hE') | ((with_reducible refine gate_bld 24 ?_); refine zao rfl rfl (.agg resetR.vals) (by kernel_rfl) ?_) | ((with_reducible refine gate_store 24 ?_); refine zac hE.out rfl 0 rfl 24 _ _ rfl _ rfl rfl rfl (by kernel_rfl) (zcb _) ?_; intro V hE'; (try dsimp only [List.set_cons_zero, List.set_cons_succ] at hE'); replace hE := Aside0.mk hE'; clear hE'))
  have r2 := run_loadVar_mid (P := Tryz.prog) _ _ 0 24 (Rg.vals _).toList _ (hE.out.at_ 0 _ _ rfl).2.range Tryz.underlying24 rfl info24
  refine bodyPost_ret (v := .agg resetR.vals) ?_ rfl ⟨rfl, hE.out.b⟩
  simp [results, Tryz.results26, asAddr, r2, Act.put]
end Go.Proofs.YtnelghpendfdmaaGreatDoor.KRow
