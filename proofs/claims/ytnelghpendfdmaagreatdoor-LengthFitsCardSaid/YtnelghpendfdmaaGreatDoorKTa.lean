/-
 PROVED: the contract of the closure that step.told defers: it catches a request.
-/
import Derived.Test.YtnelghpendfdmaaGreatDoorKMa
import Derived.Defers
namespace Go.Proofs.YtnelghpendfdmaaGreatDoor.KRow
open Go Go.RowKit Go.Proofs.YtnelghpendfdmaaGreatDoorW.PrintWords Go.Proofs.YtnelghpendfdmaaGreatDoorW.PrintLast Go.Proofs.YtnelghpendfdmaaGreatDoorW.PrintMore
open Go.Proofs.YtnelghpendfdmaaGreatDoor.HFun
set_option linter.unusedVariables false
set_option linter.unusedSimpArgs false
structure BlkAt (W : World) (g : Nat) (cs : Array Value) : Prop where
 lt : g < W.heap.size
 cell : ∀ k v,cs.toList[k]? = some v → W.cell? ⟨g,k,none⟩ = some v
 frz : ∀ k,W.frozen? ⟨g,k,none⟩ = false
section
variable {W V : World} {g g' : Nat} {cs cs' : Array Value}
theorem BlkAt.same (h : BlkAt W g cs) (hs : W.heap.size ≤ V.heap.size) (hb : V.heap[g]? = W.heap[g]?) : BlkAt V g cs :=by
 refine ⟨Nat.lt_of_lt_of_le h.lt hs,fun k v hv => (World.cell?_of_block (w :=W) (a :=⟨g,k,none⟩) hb).trans (h.cell k v hv),fun k => ?_⟩
 have :=h.frz k
 rw [World.frozen?_of_block (w :=W) (a :=⟨g,k,none⟩) hb]
 exact this
theorem BlkAt.under (h : BlkAt W g cs) (hk : Below W.heap.size W V) : BlkAt V g cs :=h.same hk.size (hk.block g h.lt)
theorem BlkAt.kp (h : BlkAt W g cs) (hk : Kp g' W V) (hne : g ≠ g') : BlkAt V g cs :=h.same hk.size (hk.block g h.lt hne)
theorem BlkAt.there (h : BlkAt W g cs) : W.there g 0 cs.size :=fun j hj => by
 obtain ⟨old,hold⟩ : ∃ u,cs.toList[0 + j]? = some u :=⟨_,List.getElem?_eq_getElem (by simpa using hj)⟩
 exact ⟨by rw [h.cell _ _ hold];rfl,h.frz _⟩
theorem BlkAt.range (h : BlkAt W g cs) : W.rangeAt g 0 cs.toList :=fun j v hj => h.cell (0 + j) v (by rw [Nat.zero_add];exact hj)
theorem BlkAt.setAll (h : BlkAt W g cs) (hsz : cs'.size = cs.size) : BlkAt (W.setCells g 0 cs'.toList) g cs' :=by
 have hth :=h.there
 rw [← hsz] at hth
 refine ⟨Nat.lt_of_lt_of_le h.lt (Kp.setCells 0 _ W (Kp.refl g W)).size,fun k v hk => ?_,fun k => (World.frozen?_setCells _ _ _ _ _).trans (h.frz k)⟩
 have h1 :=World.rangeAt_setCells_same W g 0 cs'.toList (by simpa using hth) k v
 rw [Nat.zero_add] at h1
 exact h1 hk
theorem BlkAt.box (W : World) (cs : Array Value) (ty : TypeId) : BlkAt (W.alloc (.cells cs ty)) W.heap.size cs :=by
 refine ⟨by simp,fun k v hv => ?_,fun k => ?_⟩
 ·simp only [World.cell?,heap_alloc_new]
  simpa using hv
 ·show (match (W.alloc (.cells cs ty)).heap[W.heap.size]? with | some (.cells _ _ (lo,hi)) => decide (lo ≤ k) && decide (k < hi) | _ => false) = false
  rw [heap_alloc_new]
  simp
theorem zbn {ops : Array Oper} {rest : List Oper} {op : Oper} {a : Act} {Q : Exit → Act → World → Prop} (h : BlkAt W g cs) (hgd : op.guard = none) (ty : TypeId) (x y : Operand) (ho : op.op = .store ty x y)
  (cs' : Array Value) (hx : a.eval x = .pointer (some ⟨g,0,none⟩)) (hy : a.eval y = .agg cs') (hsz : cs'.size = cs.size) (hi : (Tryz.prog.info? ty).map (·.size) = some cs'.size) (hall : cs'.all (·.oneCell') = true)
  (k : ∀ V,Kp g W V → BlkAt V g cs' → wpList Tryz.prog ops Q rest (a.put op.dst undef) V) : wpList Tryz.prog ops Q (op :: rest) a W :=
 wpList_store_mid hgd ty x y ho g 0 cs' hx hy (by rw [hsz];exact h.there) hi hall (k _ (Kp.setCells 0 _ W (Kp.refl g W)) (h.setAll hsz))
theorem wpList_bone {ops : Array Oper} {rest : List Oper} {op : Oper} {a : Act} {Q : Exit → Act → World → Prop} {old v : Value} (h : BlkAt W g #[old]) (hgd : op.guard = none) (ty : TypeId) (x y : Operand) (ho : op.op = .store ty x y)
  (hx : a.eval x = .pointer (some ⟨g,0,none⟩)) (hy : a.eval y = v) (hi : (Tryz.prog.info? ty).map (·.size) = some 1) (hvc : v.cells = #[v]) (h1 : v.oneCell' = true)
  (k : ∀ V,Kp g W V → BlkAt V g #[v] → wpList Tryz.prog ops Q rest (a.put op.dst undef) V) : wpList Tryz.prog ops Q (op :: rest) a W :=by
 refine wpList_plain hgd fun _ hK => ?_
 have hrun :=zbf (W :=W) (g :=g) hi v 0 hvc h1 (by rw [h.cell 0 old rfl];rfl) (h.frz _)
 unfold Oper.wp execOp
 simp only [ho,hx,hy,Instr.storeAt,Instr.sureAddr,Sem.run_bind,Sem.run_pure,Result.andThen_ok,hrun]
 exact hK _ _ (k _ ((Kp.refl g W).setCell 0 v) (h.setAll (cs' :=#[v]) rfl))
theorem wpList_bone_bool {ops : Array Oper} {rest : List Oper} {op : Oper} {a : Act} {Q : Exit → Act → World → Prop} {old : Value} (h : BlkAt W g #[old]) (hgd : op.guard = none) (x y : Operand) (ho : op.op = .store 4 x y) (v : Bool)
  (hx : a.eval x = .pointer (some ⟨g,0,none⟩)) (hy : a.eval y = .bool v) (k : ∀ V,Kp g W V → BlkAt V g #[.bool v] → wpList Tryz.prog ops Q rest (a.put op.dst undef) V) : wpList Tryz.prog ops Q (op :: rest) a W :=
 wpList_bone h hgd 4 x y ho hx hy (by kernel_rfl) rfl rfl k
theorem wpList_bone_err {ops : Array Oper} {rest : List Oper} {op : Oper} {a : Act} {Q : Exit → Act → World → Prop} {old : Value} (h : BlkAt W g #[old]) (hgd : op.guard = none) (x y : Operand) (ho : op.op = .store 29 x y) (v : Int)
  (hx : a.eval x = .pointer (some ⟨g,0,none⟩)) (hy : a.eval y = .int .i64 v) (k : ∀ V,Kp g W V → BlkAt V g #[.int .i64 v] → wpList Tryz.prog ops Q rest (a.put op.dst undef) V) : wpList Tryz.prog ops Q (op :: rest) a W :=
 wpList_bone h hgd 29 x y ho hx hy (by kernel_rfl) rfl rfl k
end
def reqC (k a v t : Int) : Array Value :=#[.int .i64 k,.int .u16 a,.int .u8 v,.int .i64 t]
theorem reqC_one (k a v t : Int) : (reqC k a v t).all (·.oneCell') = true :=by
 unfold reqC
 simp [Value.oneCell']
structure OutAt (W : World) (b : Nat) (q s d e : Array Value) : Prop where
 q : BlkAt W b q
 s : BlkAt W (b + 1) s
 d : BlkAt W (b + 1 + 1) d
 e : BlkAt W (b + 1 + 1 + 1) e
theorem OutAt.under {W V : World} {b : Nat} {q s d e : Array Value} (h : OutAt W b q s d e) (hk : Below W.heap.size W V) : OutAt V b q s d e :=⟨h.q.under hk,h.s.under hk,h.d.under hk,h.e.under hk⟩
theorem OutAt.kp {W V : World} {b g : Nat} {q s d e : Array Value} (h : OutAt W b q s d e) (hk : Kp g W V) (hg : g < b) : OutAt V b q s d e :=⟨h.q.kp hk (by omega),h.s.kp hk (by omega),h.d.kp hk (by omega),h.e.kp hk (by omega)⟩
theorem kp_low {w W V : World} {B g : Nat} (h : Below B w W) (k : Kp g W V) (hg : B ≤ g) (hB : B ≤ W.heap.size) : Below B w V :=h.trans (k.below hB hg)
set_option maxHeartbeats 4000000 in
set_option maxRecDepth 100000 in
theorem catch_ask {W : World} {b : Nat} {q s : Array Value} {d e : Value} (hO : OutAt W b q s #[d] #[e]) (hq : q.size = 4) (hs : s.size = 24) (k a v t : Int) :
  CallsD Tryz.prog 67 #[.pointer (some ⟨b,0,none⟩),.pointer (some ⟨b + 1,0,none⟩),.pointer (some ⟨b + 1 + 1,0,none⟩),.pointer (some ⟨b + 1 + 1 + 1,0,none⟩)] (.panicking [{ v :=reqV k a v t,recovered :=false }]) W fun e' u' w' =>
   e' = .returned (.tuple #[]) ∧ u' = .panicking [{ v :=reqV k a v t,recovered :=true }] ∧ Below b W w' ∧ OutAt w' b (reqC k a v t) zeroRg.vals #[.bool false] #[.int .i64 0] :=by
 have hta : ∀ W : World,(Instr.typeAssert (reqV k a v t) 20 102 true).run Tryz.prog W = .ok (.tuple #[.agg #[.int .i64 k,.int .u16 a,.int .u8 v,.int .i64 t],.bool true]) W :=fun _ => rfl
 refine callsD_of_wpS Tryz.func67 rfl fun c₀ cs hu => ?_
 simp only [Tryz.ntmps67,List.size_toArray,List.length_cons,List.length_nil,Nat.reduceAdd,Nat.reduceSub,Array.replicate_succ,Array.replicate_zero,List.push_toArray,List.append_toArray,List.nil_append,List.cons_append]
 apply wpS_seq
 apply wpS_region
 simp [wpOpsS,go_sem,recoverD,hu,Tryz.ntmps67,Exit.thenS]
 refine wpS_of_wp ?_
 simp only [reqV] at hta ⊢
 have hlt : b + 1 + 1 + 1 < W.heap.size :=hO.e.lt
 have hB : Below b W W :=Below.refl _ _
 replace hO :=Aside0.mk hO
 replace hB :=Aside0.mk hB
 go_upto_region 3 with (fail)
 have hW : Below W.heap.size W (W.alloc (.cells #[.int .i64 k,.int .u16 a,.int .u8 v,.int .i64 t] 102)) :=below_alloc (Below.refl _ _) _
 replace hO :=Aside0.mk (hO.out.under hW)
 replace hB :=Aside0.mk (hW.mono (by omega : b ≤ W.heap.size))
 have hb0 : b ≤ (W.alloc (.cells #[.int .i64 k,.int .u16 a,.int .u8 v,.int .i64 t] 102)).heap.size :=by simp;omega
 clear hW
 go_wp2_with ((first | ((with_reducible refine gate_store 56 ?_);refine zbn hO.out.q rfl 56 _ _ rfl (reqC k a v t) rfl rfl (Eq.trans (b :=4) rfl hq.symm) (by kernel_rfl) (reqC_one _ _ _ _) ?_;intro V hk hc;replace hB :=Aside0.mk (kp_low hB.out hk (Nat.le_refl _) (by have :=hB.out.size;omega));replace hO :=Aside0.mk (OutAt.mk hc (hO.out.s.kp hk (by omega)) (hO.out.d.kp hk (by omega)) (hO.out.e.kp hk (by omega)))) | ((with_reducible refine gate_store 24 ?_);refine zbn hO.out.s rfl 24 _ _ rfl zeroRg.vals rfl rfl (Eq.trans (b :=24) rfl hs.symm) (by kernel_rfl) (zcb _) ?_;intro V hk hc;replace hB :=Aside0.mk (kp_low hB.out hk (by omega) (by have :=hB.out.size;omega));replace hO :=Aside0.mk (OutAt.mk (hO.out.q.kp hk (by omega)) hc (hO.out.d.kp hk (by omega)) (hO.out.e.kp hk (by omega)))) | ((with_reducible refine gate_store 4 ?_);refine wpList_bone_bool hO.out.d rfl _ _ rfl _ rfl rfl ?_;intro V hk hc;replace hB :=Aside0.mk (kp_low hB.out hk (by omega) (by have :=hB.out.size;omega));replace hO :=Aside0.mk (OutAt.mk (hO.out.q.kp hk (by omega)) (hO.out.s.kp hk (by omega)) hc (hO.out.e.kp hk (by omega)))) | ((with_reducible refine gate_store 29 ?_);refine wpList_bone_err hO.out.e rfl _ _ rfl _ rfl rfl ?_;intro V hk hc;replace hB :=Aside0.mk (kp_low hB.out hk (by omega) (by have :=hB.out.size;omega));replace hO :=Aside0.mk (OutAt.mk (hO.out.q.kp hk (by omega)) (hO.out.s.kp hk (by omega)) (hO.out.d.kp hk (by omega)) hc)));clear hc hk)
 exact ⟨rfl,_,rfl,.tuple #[],results_none rfl _ _ _,rfl,rfl,hB.out,hO.out⟩
theorem catch_idle (p1 p2 p3 p4 : Value) (W : World) :
  CallsD Tryz.prog 67 #[p1,p2,p3,p4] .returning W fun e' u' w' => e' = .returned (.tuple #[]) ∧ u' = .returning ∧ w' = W :=by
 refine callsD_of_wpS Tryz.func67 rfl fun c₀ cs hu => ?_
 simp only [Tryz.ntmps67,List.size_toArray,List.length_cons,List.length_nil,Nat.reduceAdd,Nat.reduceSub,Array.replicate_succ,Array.replicate_zero,List.push_toArray,List.append_toArray,List.nil_append,List.cons_append]
 apply wpS_seq
 apply wpS_region
 simp [wpOpsS,go_sem,recoverD,hu,Tryz.ntmps67,Exit.thenS]
 refine wpS_of_wp ?_
 go_wp2_with fail
 cases c₀
 simp_all [bodyPostS,results,Tryz.results67]
structure To where
 k : Int
 a : Int
 v : Int
 t : Int
 s : Rg
 d : Bool
 e : Int
def To.val (c : To) : Value :=.tuple #[.agg (reqC c.k c.a c.v c.t),.agg c.s.vals,.bool c.d,.int .i64 c.e]
def toldOf (gl : List Int) : Res Unit → To
 | .ok _ ρ n => if n < gl.length then ⟨0,0,0,0,zeroRg,false,3⟩ else ⟨0,0,0,0,ρ.toRg,true,0⟩
 | .ask k a v t => ⟨k,a,v,t,zeroRg,false,0⟩
theorem info56 : (Tryz.prog.info? 56).map (·.size) = some 4 :=by kernel_rfl
theorem results_out {tmps : Array Value} {W : World} {b : Nat} {c : To} (hO : OutAt W b (reqC c.k c.a c.v c.t) c.s.vals #[.bool c.d] #[.int .i64 c.e])
  (h4 : tmps.getD 4 undef = .pointer (some ⟨b,0,none⟩)) (h5 : tmps.getD 5 undef = .pointer (some ⟨b + 1,0,none⟩)) (h6 : tmps.getD 6 undef = .pointer (some ⟨b + 1 + 1,0,none⟩)) (h7 : tmps.getD 7 undef = .pointer (some ⟨b + 1 + 1 + 1,0,none⟩)) :
  (results Tryz.f50 tmps).run Tryz.prog W = .ok c.val W :=by
 have h4' : tmps[4]?.getD undef = .pointer (some ⟨b,0,none⟩) :=by simpa using h4
 have h5' : tmps[5]?.getD undef = .pointer (some ⟨b + 1,0,none⟩) :=by simpa using h5
 have h6' : tmps[6]?.getD undef = .pointer (some ⟨b + 1 + 1,0,none⟩) :=by simpa using h6
 have h7' : tmps[7]?.getD undef = .pointer (some ⟨b + 1 + 1 + 1,0,none⟩) :=by simpa using h7
 have cd :=hO.d.cell 0 _ rfl
 have ce :=hO.e.cell 0 _ rfl
 have r1 :=run_loadVar_mid (P :=Tryz.prog) W b 0 56 (reqC c.k c.a c.v c.t).toList _ hO.q.range Tryz.underlying56 rfl info56
 have r2 :=run_loadVar_mid (P :=Tryz.prog) W (b + 1) 0 24 c.s.vals.toList _ hO.s.range Tryz.underlying24 rfl info24
 have r3 : (loadVar 4 ⟨b + 1 + 1,0,none⟩).run Tryz.prog W = .ok (.bool c.d) W :=by simp [go_sem,cd]
 have r4 : (loadVar 29 ⟨b + 1 + 1 + 1,0,none⟩).run Tryz.prog W = .ok (.int .i64 c.e) W :=by simp [go_sem,ce]
 simp [results,Tryz.results50,h4',h5',h6',h7',asAddr,r1,r2,r3,r4,To.val]
end Go.Proofs.YtnelghpendfdmaaGreatDoor.KRow
