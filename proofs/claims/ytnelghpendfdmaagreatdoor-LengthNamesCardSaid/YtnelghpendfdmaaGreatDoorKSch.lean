/-
 PROVED: a region that draws its order is walked in one order that is written down (first what only reads, then calls under which a condition on the world holds on, then the rest one by one).
-/
import Derived.Test.YtnelghpendfdmaaGreatDoorHFunx0
namespace Go.Proofs.YtnelghpendfdmaaGreatDoor.KRow
set_option linter.unusedSimpArgs false
open Go Go.RowKit Go.Proofs.YtnelghpendfdmaaGreatDoorW.PrintWords Go.Proofs.YtnelghpendfdmaaGreatDoorW.PrintLast Go.Proofs.YtnelghpendfdmaaGreatDoorW.PrintMore
set_option linter.unusedVariables false
section
variable {P : Program} {ops : Array Oper} {S : World → Prop} {Q : Exit → Act → World → Prop} {tl : List Nat}
/-- The order: 0: it yields in every world; 1: it yields in every world of S; else: it is run, S holds behind it. Behind them the operations tl, one by one. -/
def Sch (P : Program) (ops : Array Oper) (S : World → Prop) (Q : Exit → Act → World → Prop) (tl : List Nat) : List (Nat × Nat) → Act → World → Prop
 | [],a,w => wpList P ops Q (tl.filterMap (ops[·]?)) a w
 | (i,0) :: r,a,w => ∃ o v,ops[i]? = some o ∧ Yields P ops o v a ∧ Sch P ops S Q tl r (a.put o.dst v) w
 | (i,1) :: r,a,w => ∃ o v,ops[i]? = some o ∧ YieldsIf P ops S o v a ∧ S w ∧ Sch P ops S Q tl r (a.put o.dst v) w
 | (i,_ + 2) :: r,a,w => ∃ o,ops[i]? = some o ∧ ∀ K : Act → World → Prop,(∀ a' w',S w' → Sch P ops S Q tl r a' w' → K a' w') → if Region.wanted o (yielded ops a.tmps) = true then Oper.wp P o a w K Q else K (a.put o.dst undef) w
def tlT (T : Bool × List (List Nat × List Nat)) : List Nat → List Bool → Bool
 | [],l => readyT T.2 l == []
 | i :: r,l => readyT T.2 l == [i] && tlT T r (l.set i true)
def schT (T : Bool × List (List Nat × List Nat)) (ds tl : List Nat) : List (Nat × Nat) → List Bool → Bool
 | [],l => tl.all (ds.contains ·) && tlT T tl l
 | (i,0) :: r,l => anyT T l (l.set i true) i && schT T ds tl r (l.set i true)
 | (i,1) :: r,l => takeT T ds l (l.set i true) i && schT T ds tl r (l.set i true)
 | (i,_ + 2) :: r,l => (readyT T.2 l == [i]) && !(ds.contains i) && schT T ds tl r (l.set i true)
theorem set_lit (l : Array Bool) (i : Nat) : (l.setIfInBounds i true).toList = l.toList.set i true :=by simp
theorem sch_tail {ds : List Nat} {T : Bool × List (List Nat × List Nat)} (hT : rtab .any ops = T) : ∀ (tl : List Nat) (l : Array Bool) (a : Act) (w : World),tl.all (ds.contains ·) = true → tlT T tl l.toList = true →
  wpList P ops Q (tl.filterMap (ops[·]?)) a w → wpAnyLast P .any ops Q S ds tl.length l a w
 | [],l,a,w,_,hB,h => by
  refine done_ (done_of hT ?_) h
  simpa [tlT] using hB
 | i :: r,l,a,w,hd,hB,h => by
  simp only [tlT,Bool.and_eq_true] at hB
  simp only [List.all_cons,Bool.and_eq_true] at hd
  cases ho : ops[i]? with
  | none =>
   exfalso
   have h1 : i ∈ readyT T.2 l.toList :=by rw [eq_of_beq hB.1];simp
   simp only [readyT,List.mem_filter,List.mem_range] at h1
   have h2 :=h1.1
   rw [← hT,rtab_length] at h2
   have :=Array.getElem?_eq_none_iff.1 ho
   omega
  | some o =>
   rw [List.filterMap_cons_some ho] at h
   have h1 : readyB .any ops l (l.setIfInBounds i true) i = true :=one_of hT (by rw [Bool.and_eq_true];exact ⟨hB.1,by rw [set_lit];simp⟩)
   simp only [readyB,Bool.and_eq_true,beq_iff_eq] at h1
   refine wpAnyLast_all h1.1 (by simp) (fun j hj => ?_)
   obtain rfl : j = i :=by simpa using hj
   refine wpOp_mono (K :=wpList P ops Q (r.filterMap (ops[·]?))) (fun a' w' h' => ⟨fun hn => absurd (by simpa using hd.1) hn,sch_tail hT r _ a' w' hd.2 (by rw [set_lit];exact hB.2) h'⟩) ?_
   unfold wpOp
   rw [ho]
   exact h
theorem sch_any {ds : List Nat} {T : Bool × List (List Nat × List Nat)} (hT : rtab .any ops = T) (hQ : ∀ c a d v w,Q (.panic c) (Act.put a d v) w → Q (.panic c) a w) : ∀ (r : List (Nat × Nat)) (l : Array Bool) (a : Act) (w : World),schT T ds tl r l.toList = true →
  Sch P ops S Q tl r a w → wpAnyLast P .any ops Q S ds (r.length + tl.length) l a w
 | [],l,a,w,hB,h => by
  simp only [schT,Bool.and_eq_true] at hB
  rw [List.length_nil,Nat.zero_add]
  exact sch_tail hT tl l a w hB.1 hB.2 h
 | (i,0) :: r,l,a,w,hB,h => by
  simp only [schT,Bool.and_eq_true] at hB
  obtain ⟨o,v,ho,hy,h⟩ :=h
  rw [show ((i,0) :: r).length + tl.length = (r.length + tl.length) + 1 by simp only [List.length_cons];omega]
  exact pure_ (l.setIfInBounds i true) ho rfl (any_of hT (by rw [set_lit];exact hB.1)) (fun c a w => hQ c a _ v w) hy rfl (sch_any hT hQ r _ _ w (by rw [set_lit];exact hB.2) h)
 | (i,1) :: r,l,a,w,hB,h => by
  simp only [schT,Bool.and_eq_true] at hB
  obtain ⟨o,v,ho,hy,hS,h⟩ :=h
  rw [show ((i,1) :: r).length + tl.length = (r.length + tl.length) + 1 by simp only [List.length_cons];omega]
  exact take_ (l.setIfInBounds i true) ho rfl (take_of hT (by rw [set_lit];exact hB.1)) (fun c a w => hQ c a _ v w) hy hS rfl (sch_any hT hQ r _ _ w (by rw [set_lit];exact hB.2) h)
 | (i,m + 2) :: r,l,a,w,hB,h => by
  simp only [schT,Bool.and_eq_true,Bool.not_eq_true'] at hB
  obtain ⟨o,ho,h⟩ :=h
  rw [show ((i,m + 2) :: r).length + tl.length = (r.length + tl.length) + 1 by simp only [List.length_cons];omega]
  refine one_ (l.setIfInBounds i true) ho rfl (one_of hT (by rw [Bool.and_eq_true];exact ⟨hB.1.1,by rw [set_lit];simp⟩)) (by simpa using hB.1.2) (fun K hK => ?_)
  exact h K (fun a' w' hS h' => hK a' w' hS (fun _ => sch_any hT hQ r _ a' w' (by rw [set_lit];exact hB.2) h'))
/-- A region that draws, in the order sch, then tl. -/
theorem region_sch {id : Nat} {a : Act} {w : World} (S : World → Prop) (sch : List (Nat × Nat)) (tl ds : List Nat) (n : Nat) (hm : P.follows .mixedOrders = true) (hn : ops.size = n) (hl : sch.length + tl.length = n) (hB : schT (rtab .any ops) ds tl sch (List.replicate n false) = true)
  (hQ : ∀ c a d v w,Q (.panic c) (Act.put a d v) w → Q (.panic c) a w) (hS : S w.drew) (h : Sch P ops S Q tl sch a w.drew) : (Code.region id ops true).wp P Q a w :=by
 subst hl
 refine start_ (n :=sch.length + tl.length) (S :=S) (ds :=ds) (Array.replicate (sch.length + tl.length) false) hm hn rfl hS (fun _ => ?_)
 exact sch_any rfl hQ sch _ a _ (by rw [Array.toList_replicate];exact hB) h
/-- The same, the world behind the draw a variable of which S is known. -/
theorem region_schV {id : Nat} {a : Act} {w : World} (S : World → Prop) (sch : List (Nat × Nat)) (tl ds : List Nat) (n : Nat) (hm : P.follows .mixedOrders = true) (hn : ops.size = n) (hl : sch.length + tl.length = n) (hB : schT (rtab .any ops) ds tl sch (List.replicate n false) = true)
  (hQ : ∀ c a d v w,Q (.panic c) (Act.put a d v) w → Q (.panic c) a w) (hS : S w.drew) (h : ∀ V,S V → Sch P ops S Q tl sch a V) : (Code.region id ops true).wp P Q a w :=region_sch S sch tl ds n hm hn hl hB hQ hS (h _ hS)
/-- The steps. -/
theorem Sch.pure {i : Nat} {o : Oper} {N : Option Tmp} {v : Value} {r : List (Nat × Nat)} {a a' : Act} {w : World} (ho : ops[i]? = some o) (hN : o.dst = N) (hg : Region.wanted o (yielded ops a.tmps) = true) (hy : ∀ w,(execOp a.eval o).run P w = .ok (.value v) w) (ha : a.put N v = a')
  (h : Sch P ops S Q tl r a' w) : Sch P ops S Q tl ((i,0) :: r) a w :=by
 subst ha
 subst hN
 exact ⟨o,v,ho,.inl ⟨hg,hy⟩,h⟩
theorem Sch.take {i : Nat} {o : Oper} {N : Option Tmp} {v : Value} {r : List (Nat × Nat)} {a a' : Act} {w : World} (ho : ops[i]? = some o) (hN : o.dst = N) (hg : Region.wanted o (yielded ops a.tmps) = true) (hS : S w) (hy : ∀ w,S w → (execOp a.eval o).run P w = .ok (.value v) w) (ha : a.put N v = a')
  (h : Sch P ops S Q tl r a' w) : Sch P ops S Q tl ((i,1) :: r) a w :=by
 subst ha
 subst hN
 exact ⟨o,v,ho,.inl ⟨hg,hy⟩,hS,h⟩
theorem Sch.pureN {i n : Nat} {o : Oper} {v : Value} {r : List (Nat × Nat)} {a a' : Act} {w : World} (ho : ops[i]? = some o) (hN : o.dst = some n) (hg : Region.wanted o (yielded ops a.tmps) = true) (hy : ∀ w,(execOp a.eval o).run P w = .ok (.value v) w) (ha : a.put (some n) v = a')
  (h : Sch P ops S Q tl r a' w) : Sch P ops S Q tl ((i,0) :: r) a w :=Sch.pure ho hN hg hy ha h
theorem Sch.takeN {i n : Nat} {o : Oper} {v : Value} {r : List (Nat × Nat)} {a a' : Act} {w : World} (ho : ops[i]? = some o) (hN : o.dst = some n) (hg : Region.wanted o (yielded ops a.tmps) = true) (hS : S w) (hy : ∀ w,S w → (execOp a.eval o).run P w = .ok (.value v) w) (ha : a.put (some n) v = a')
  (h : Sch P ops S Q tl r a' w) : Sch P ops S Q tl ((i,1) :: r) a w :=Sch.take ho hN hg hS hy ha h
theorem Sch.call {i m : Nat} {o : Oper} {N : Option Tmp} {r : List (Nat × Nat)} {a : Act} {w : World} {f : FuncId} {fn : Func} {xs : Array Operand} {ts : Array TypeId} (ho : ops[i]? = some o) (hN : o.dst = N) (hf : P.funcs[f]? = some fn) (hname : (fn.name == "runtime.NumGoroutine") = false) (hb : fn.body.isSome = true) (args : Array Value)
  (hg : Region.wanted o (yielded ops a.tmps) = true) (hop : o.op = .call { callee :=.value (.func f),args :=xs,argTypes :=ts }) (hargs : xs.map a.eval = args)
  (h : Calls P f args w fun
   | .returned v,w' => S w' ∧ Sch P ops S Q tl r (a.put N v) w'
   | .panicked c,w' => Q (.panic c) a w'
   | .outgrown,_ => LetsOut Q) : Sch P ops S Q tl ((i,m + 2) :: r) a w :=by
 refine ⟨o,ho,fun K hK => ?_⟩
 rw [if_pos hg]
 subst hN
 have he :=enters_ hf hname hb args w
 have hrun : (execOp a.eval o).run P w = .ok (.enter f args) w :=by
  unfold execOp
  simp [hop,resolve,Deferred.ofValue,invoke,Act.eval,hargs,he]
 unfold Oper.wp
 rw [hrun,Oper.upon_enter]
 refine h.mono fun e w' hh => ?_
 cases e with
 | returned v => exact hK _ _ hh.1 hh.2
 | panicked c => exact hh
 | outgrown => exact hh
theorem Sch.skip {i m : Nat} {o : Oper} {r : List (Nat × Nat)} {a : Act} {w w1 : World} (ho : ops[i]? = some o) (hN : o.dst = none) (hg : Region.wanted o (yielded ops a.tmps) = true) (hrun : (execOp a.eval o).run P w = .ok .skip w1) (hS : S w1)
  (h : Sch P ops S Q tl r a w1) : Sch P ops S Q tl ((i,m + 2) :: r) a w :=by
 refine ⟨o,ho,fun K hK => ?_⟩
 rw [if_pos hg]
 unfold Oper.wp
 rw [hrun,Oper.upon_skip]
 rw [show a.put o.dst undef = a by rw [hN];rfl]
 exact hK _ _ hS h
theorem range_picks (l : List Oper) : ∀ (m k : Nat),k + m = l.length → (List.range' k m).filterMap (l.toArray[·]?) = l.drop k
 | 0,k,h => by
  rw [List.range'_zero,List.filterMap_nil,List.drop_eq_nil_of_le (by omega)]
 | m + 1,k,h => by
  have hk : k < l.length :=by omega
  rw [List.range'_succ,List.filterMap_cons_some (b :=l[k]) (by simp [hk]),range_picks l m (k + 1) (by omega),List.drop_eq_getElem_cons hk]
theorem Sch.tail {l : List Oper} {a : Act} {w : World} (k m : Nat) (htl : tl = List.range' k m) (hl : k + m = l.length) (h : wpList P l.toArray Q (l.drop k) a w) : Sch P l.toArray S Q tl [] a w :=by
 subst htl
 rw [← range_picks l m k hl] at h
 exact h
theorem Sch.norm {r : List (Nat × Nat)} {a a' : Act} {w : World} (ha : a = a') (h : Sch P ops S Q tl r a' w) : Sch P ops S Q tl r a w :=by
 subst ha
 exact h
theorem gate_region (id : Nat) {P : Program} {ops : Array Oper} {Q : Exit → Act → World → Prop} {a : Act} {w : World} (h : (Code.region id ops true).wp P Q a w) : (Code.region id ops true).wp P Q a w :=h
end
end Go.Proofs.YtnelghpendfdmaaGreatDoor.KRow
