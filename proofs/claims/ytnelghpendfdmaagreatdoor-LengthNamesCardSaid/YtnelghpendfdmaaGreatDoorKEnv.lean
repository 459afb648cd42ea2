/-
 PROVED: what a walk knows of the boxes that it made itself (Env), and its steps at an allocation, a load, a store.
-/
import Derived.Test.YtnelghpendfdmaaGreatDoorKTa
namespace Go.Proofs.YtnelghpendfdmaaGreatDoor.KRow
open Go Go.RowKit Go.Proofs.YtnelghpendfdmaaGreatDoorW.PrintWords Go.Proofs.YtnelghpendfdmaaGreatDoorW.PrintLast Go.Proofs.YtnelghpendfdmaaGreatDoorW.PrintMore
open Go.Proofs.YtnelghpendfdmaaGreatDoor.HFun
set_option linter.unusedVariables false
set_option linter.unusedSimpArgs false
structure Env (w0 V : World) (bs : List (Nat × Array Value)) : Prop where
 b : Below w0.heap.size w0 V
 at_ : ∀ (j g : Nat) (cs : Array Value),bs[j]? = some (g,cs) → w0.heap.size ≤ g ∧ BlkAt V g cs
 ne : ∀ (i j g : Nat) (cs cs' : Array Value),bs[i]? = some (g,cs) → bs[j]? = some (g,cs') → i = j
section
variable {w0 V V' : World} {bs : List (Nat × Array Value)}
theorem Env.nil (w : World) : Env w w [] :=⟨Below.refl _ _,fun j g cs h => by simp at h,fun i j g cs cs' h => by simp at h⟩
theorem Env.size (h : Env w0 V bs) : w0.heap.size ≤ V.heap.size :=h.b.size
theorem Env.lt (h : Env w0 V bs) {j g : Nat} {cs : Array Value} (hj : bs[j]? = some (g,cs)) : g < V.heap.size :=(h.at_ j g cs hj).2.lt
theorem Env.under (h : Env w0 V bs) (hb : Below V.heap.size V V') : Env w0 V' bs :=
 ⟨h.b.trans (hb.mono h.b.size),fun j g cs hj => ⟨(h.at_ j g cs hj).1,(h.at_ j g cs hj).2.under hb⟩,h.ne⟩
theorem Env.push (h : Env w0 V bs) (cs : Array Value) (ty : TypeId) : Env w0 (V.alloc (.cells cs ty)) ((V.heap.size,cs) :: bs) :=by
 have hu :=h.under (below_alloc (Below.refl V.heap.size V) (.cells cs ty))
 refine ⟨hu.b,fun j g cs' hj => ?_,fun i j g c1 c2 hi hj => ?_⟩
 ·cases j with
  | zero => simp only [List.getElem?_cons_zero,Option.some.injEq,Prod.mk.injEq] at hj;obtain ⟨rfl,rfl⟩ :=hj;exact ⟨h.size,BlkAt.box V cs ty⟩
  | succ j => exact hu.at_ j g cs' (by simpa using hj)
 ·cases i with
  | zero =>
   simp only [List.getElem?_cons_zero,Option.some.injEq,Prod.mk.injEq] at hi
   cases j with
   | zero => rfl
   | succ j => have :=h.lt (j :=j) (g :=g) (cs :=c2) (by simpa using hj);omega
  | succ i =>
   cases j with
   | zero =>
    simp only [List.getElem?_cons_zero,Option.some.injEq,Prod.mk.injEq] at hj
    have :=h.lt (j :=i) (g :=g) (cs :=c1) (by simpa using hi);omega
   | succ j => exact congrArg (· + 1) (h.ne i j g c1 c2 (by simpa using hi) (by simpa using hj))
theorem Env.put (h : Env w0 V bs) {i g : Nat} {cs cs' : Array Value} (hi : bs[i]? = some (g,cs)) (hk : Kp g V V') (hc : BlkAt V' g cs') : Env w0 V' (bs.set i (g,cs')) :=by
 have hlt : i < bs.length :=(List.getElem?_eq_some_iff.1 hi).1
 have hfst : ∀ (j g' : Nat) (c : Array Value),(bs.set i (g,cs'))[j]? = some (g',c) → ∃ c0,bs[j]? = some (g',c0) :=fun j g' c hj => by
  rw [List.getElem?_set] at hj
  by_cases e : i = j
  ·subst e
   simp only [if_true,hlt,Option.some.injEq,Prod.mk.injEq] at hj
   obtain ⟨rfl,rfl⟩ :=hj
   exact ⟨cs,hi⟩
  ·rw [if_neg e] at hj;exact ⟨c,hj⟩
 refine ⟨h.b.trans (hk.below h.size (h.at_ i g cs hi).1),fun j g' c hj => ?_,fun a b g' c1 c2 ha hb => ?_⟩
 ·obtain ⟨c0,hj0⟩ :=hfst j g' c hj
  refine ⟨(h.at_ j g' c0 hj0).1,?_⟩
  rw [List.getElem?_set] at hj
  by_cases e : i = j
  ·subst e
   simp only [if_true,hlt,Option.some.injEq,Prod.mk.injEq] at hj
   obtain ⟨rfl,rfl⟩ :=hj
   exact hc
  ·rw [if_neg e] at hj
   exact (h.at_ j g' c hj).2.kp hk (fun he => e (h.ne i j g cs c hi (he ▸ hj)))
 ·obtain ⟨c3,h3⟩ :=hfst a g' c1 ha
  obtain ⟨c4,h4⟩ :=hfst b g' c2 hb
  exact h.ne a b g' c3 c4 h3 h4
theorem Env.drewN (h : Env w0 V bs) (m : Nat) : Env w0 (V.drewN m) bs :=h.under (pw_below_drewN (Below.refl _ _) m)
theorem Env.drew (h : Env w0 V bs) : Env w0 V.drew bs :=h.drewN 1
variable {ops : Array Oper} {rest : List Oper} {op : Oper} {a : Act} {Q : Exit → Act → World → Prop}
theorem wpList_new (h : Env w0 V bs) (hgd : op.guard = none) (cs : Array Value) (ty : TypeId) (hb : (execOp a.eval op).run Tryz.prog V = .ok (.value (.pointer (some ⟨V.heap.size,0,none⟩))) (V.alloc (.cells cs ty)))
  (k : ∀ V' g,Env w0 V' ((g,cs) :: bs) → wpList Tryz.prog ops Q rest (a.put op.dst (.pointer (some ⟨g,0,none⟩))) V') : wpList Tryz.prog ops Q (op :: rest) a V :=by
 refine wpList_plain hgd fun _ hK => ?_
 unfold Oper.wp
 simp only [hb]
 exact hK _ _ (k _ _ (h.push cs ty))
theorem wpList_bsl (h : Env w0 V bs) (hgd : op.guard = none) (cs : Array Value) (ty : TypeId) (n : Nat) (hb : (execOp a.eval op).run Tryz.prog V = .ok (.value (.slice (some ⟨V.heap.size,0,none⟩) n n)) (V.alloc (.cells cs ty)))
  (k : ∀ V' g,Env w0 V' ((g,cs) :: bs) → wpList Tryz.prog ops Q rest (a.put op.dst (.slice (some ⟨g,0,none⟩) n n)) V') : wpList Tryz.prog ops Q (op :: rest) a V :=by
 refine wpList_plain hgd fun _ hK => ?_
 unfold Oper.wp
 simp only [hb]
 exact hK _ _ (k _ _ (h.push cs ty))
theorem wpList_ld (h : Env w0 V bs) (hgd : op.guard = none) (i : Nat) {g : Nat} {cs : Array Value} (hi : bs[i]? = some (g,cs)) (ty : TypeId) (x : Operand) (ho : op.op = .load ty x)
  (hx : a.eval x = .pointer (some ⟨g,0,none⟩)) (hr : ∀ (W : World),W.rangeAt g 0 cs.toList → (Instr.loadAt ty (.pointer (some ⟨g,0,none⟩))).run Tryz.prog W = .ok (.agg cs) W) (k : wpList Tryz.prog ops Q rest (a.put op.dst (.agg cs)) V) : wpList Tryz.prog ops Q (op :: rest) a V :=by
 refine wpList_plain hgd fun _ hK => ?_
 have :=hr V (h.at_ i g cs hi).2.range
 unfold Oper.wp execOp
 simp only [ho,hx,this,Sem.run_bind,Sem.run_pure,Result.andThen_ok]
 exact hK _ _ k
theorem ld24 (g : Nat) (ρ : Rg) (W : World) (h : W.rangeAt g 0 ρ.vals.toList) : (Instr.loadAt 24 (.pointer (some ⟨g,0,none⟩))).run Tryz.prog W = .ok (.agg ρ.vals) W :=run_loadAt_mid (P :=Tryz.prog) W g 0 24 ρ.vals.toList _ h Tryz.underlying24 rfl info24
theorem ld56 (g : Nat) (k a v t : Int) (W : World) (h : W.rangeAt g 0 (reqC k a v t).toList) : (Instr.loadAt 56 (.pointer (some ⟨g,0,none⟩))).run Tryz.prog W = .ok (.agg (reqC k a v t)) W :=run_loadAt_mid (P :=Tryz.prog) W g 0 56 (reqC k a v t).toList _ h Tryz.underlying56 rfl info56
theorem wpList_st (h : Env w0 V bs) (hgd : op.guard = none) (i : Nat) {g : Nat} {cs : Array Value} (hi : bs[i]? = some (g,cs)) (ty : TypeId) (x y : Operand) (ho : op.op = .store ty x y) (cs' : Array Value)
  (hx : a.eval x = .pointer (some ⟨g,0,none⟩)) (hy : a.eval y = .agg cs') (hsz : cs'.size = cs.size) (hinf : (Tryz.prog.info? ty).map (·.size) = some cs'.size) (hall : cs'.all (·.oneCell') = true)
  (k : ∀ V',Env w0 V' (bs.set i (g,cs')) → wpList Tryz.prog ops Q rest (a.put op.dst undef) V') : wpList Tryz.prog ops Q (op :: rest) a V :=
 wpList_bagg (h.at_ i g cs hi).2 hgd ty x y ho cs' hx hy hsz hinf hall (fun V' hk hc => k V' (h.put hi hk hc))
theorem wpList_st1 (h : Env w0 V bs) (hgd : op.guard = none) (i : Nat) {g : Nat} {cs : Array Value} (hi : bs[i]? = some (g,cs)) (ty : TypeId) (x y : Operand) (ho : op.op = .store ty x y) (k0 : Nat) (v : Value)
  (hx : a.eval x = .pointer (some ⟨g,k0,none⟩)) (hy : a.eval y = v) (hinf : (Tryz.prog.info? ty).map (·.size) = some 1) (hvc : v.cells = #[v]) (h1 : v.oneCell' = true) (hlt : k0 < cs.size)
  (k : ∀ V',Env w0 V' (bs.set i (g,cs.setIfInBounds k0 v)) → wpList Tryz.prog ops Q rest (a.put op.dst undef) V') : wpList Tryz.prog ops Q (op :: rest) a V :=by
 refine wpList_plain hgd fun _ hK => ?_
 have hB :=(h.at_ i g cs hi).2
 obtain ⟨old,hold⟩ : ∃ u,cs.toList[k0]? = some u :=⟨_,List.getElem?_eq_getElem (by simpa using hlt)⟩
 have hrun :=run_storeVar_one (W :=V) (g :=g) hinf v k0 hvc h1 (by rw [hB.cell _ _ hold];rfl) (hB.frz _)
 unfold Oper.wp execOp
 simp only [ho,hx,hy,Instr.storeAt,Instr.sureAddr,Sem.run_bind,Sem.run_pure,Result.andThen_ok,hrun]
 have hkp :=(Kp.refl g V).setCell k0 v
 refine hK _ _ (k _ (h.put hi hkp ⟨Nat.lt_of_lt_of_le hB.lt hkp.size,fun k u hu => ?_,fun k => (World.frozen?_setCell _ _ _ _).trans (hB.frz k)⟩))
 rw [Array.toList_setIfInBounds,List.getElem?_set] at hu
 by_cases e : k0 = k
 ·subst e
  have hl : k0 < cs.toList.length :=by simpa using hlt
  simp only [if_true,hl,Option.some.injEq] at hu
  subst hu
  exact World.cell?_setCell_same V _ _ (hB.cell k0 _ hold)
 ·rw [if_neg e] at hu
  exact (World.cell?_setCell_other V _ _ _ (by simp [e])).trans (hB.cell k u hu)
end
/-- Bytes in a box of one's own are a row that is read. -/
def bytesC (l : List Int) : Array Value :=(l.map (Value.int .u8)).toArray
theorem blk_bytes {V : World} {g : Nat} {l : List Int} (h : BlkAt V g (bytesC l)) (hm : l.length ≤ 9223372036854775807) : Kd.C (Kd.int .u8) V (some ⟨g,0,none⟩) l.length l :=by
 refine ⟨rfl,hm,fun _ => ⟨⟨g,0,none⟩,rfl,fun j p hp => ⟨[.int .u8 p],rfl,rfl,fun i u hu => ?_⟩⟩⟩
 have hi : i = 0 :=by
  cases i with
  | zero => rfl
  | succ i => simp at hu
 subst hi
 have hu : Value.int .u8 p = u :=by simpa using hu
 subst hu
 have :=h.cell j (.int .u8 p) (by simp [bytesC,hp])
 show V.cell? ((⟨g,0,none⟩ : Addr).add (j * 1 + 0)) = _
 rw [Nat.mul_one,Nat.add_zero]
 have hz : (⟨g,0,none⟩ : Addr).add j = ⟨g,j,none⟩ :=by
  by_cases h0 : j = 0
  ·subst h0;rfl
  ·simp [Addr.add];omega
 rw [hz]
 exact this
theorem gate_box (ty : TypeId) {P : Program} {ops : Array Oper} {Q : Exit → Act → World → Prop} {W : World} {rest : List Oper} {d x t p af gd a} (h : wpList P ops Q ({ dst :=d,op :=.box ty x,type :=t,pos :=p,after :=af,guard :=gd } :: rest) a W) : wpList P ops Q ({ dst :=d,op :=.box ty x,type :=t,pos :=p,after :=af,guard :=gd } :: rest) a W :=h
theorem gate_alloc (ty : TypeId) {P : Program} {ops : Array Oper} {Q : Exit → Act → World → Prop} {W : World} {rest : List Oper} {d t p af gd a} (h : wpList P ops Q ({ dst :=d,op :=.alloc ty,type :=t,pos :=p,after :=af,guard :=gd } :: rest) a W) : wpList P ops Q ({ dst :=d,op :=.alloc ty,type :=t,pos :=p,after :=af,guard :=gd } :: rest) a W :=h
theorem gate_bsl (ty : TypeId) {P : Program} {ops : Array Oper} {Q : Exit → Act → World → Prop} {W : World} {rest : List Oper} {d n xs t p af gd a} (h : wpList P ops Q ({ dst :=d,op :=.buildSlice ty n xs,type :=t,pos :=p,after :=af,guard :=gd } :: rest) a W) : wpList P ops Q ({ dst :=d,op :=.buildSlice ty n xs,type :=t,pos :=p,after :=af,guard :=gd } :: rest) a W :=h
end Go.Proofs.YtnelghpendfdmaaGreatDoor.KRow
