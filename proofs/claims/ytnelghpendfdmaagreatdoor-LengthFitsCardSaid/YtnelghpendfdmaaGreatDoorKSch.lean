-- Out of the text that the kit's print.sh printed, by a program of this session that left out what is not used here (prune.py).
import Derived.Laws.BitsAllLaws
import Derived.OpenShut
import Derived.Test.YtnelghpendfdmaaGreatDoorWMore
import Derived.Test.YtnelghpendfdmaaGreatDoorProg
import Derived.Test.YtnelghpendfdmaaGreatDoorWTab
/-! ### 58. A guarded operation whose guard is known to want it: the same goal without the guard -/
namespace Go.Proofs.YtnelghpendfdmaaGreatDoorW.PrintWords
open Go.RowKit
section
variable {P : Program} {ops : Array Oper} {rest : List Oper} {o : Oper} {a : Act} {Q : Exit → Act → World → Prop} {W : World}
/-- The gate takes the guard off (hw: 'by rfl', 'by kernel_rfl': the guard's slot holds what is wanted). -/
theorem gate_guard (hw : Region.wanted o (yielded ops a.tmps) = true) (h : wpList P ops Q ({ o with guard :=none } :: rest) a W) : wpList P ops Q (o :: rest) a W :=by
 have h1 : Region.wanted { o with guard :=none } (yielded ops a.tmps) = true :=rfl
 unfold wpList at h ⊢
 rw [if_pos h1] at h
 rw [if_pos hw]
 exact h
end
end Go.Proofs.YtnelghpendfdmaaGreatDoorW.PrintWords
set_option linter.unusedVariables false
namespace Go.Proofs.YtnelghpendfdmaaGreatDoor.B
open Go Go.RowKit
theorem w64 {x : Int} (h0 : -9223372036854775808 ≤ x) (h1 : x < 9223372036854775808) : wrap64 x = x :=by
 unfold wrap64;omega
theorem wu8 (x : Int) : IntKind.u8.wrap x = x % 256 :=IntKind.wrap_u8' x
theorem wu16 (x : Int) : IntKind.u16.wrap x = x % 65536 :=IntKind.wrap_u16 x
-- bytes: and with a mask
section
variable {x : Int} (h0 : 0 ≤ x) (h1 : x < 256)
include h0 h1
end
-- bytes: and not a mask: x less the bits
-- bytes: or with one bit that is not set
section
variable {x y : Int} (h0 : 0 ≤ x) (h1 : x < 256)
include h0 h1
end
-- a high half and a low half
-- words
/-- A byte's own flags: S, Y, X, Z. -/
def own (r : Int) : Int :=r / 128 * 128 + r / 32 % 2 * 32 + r / 8 % 2 * 8 + (if r = 0 then 64 else 0)
section
variable {o c h p : Int} (h0 : 0 ≤ o) (h1 : o < 256) (ho : o % 8 = 0) (ho' : o / 16 % 2 = 0) (hc : c = 0 ∨ c = 1) (hh : h = 0 ∨ h = 16) (hp : p = 0 ∨ p = 4)
include h0 h1 ho ho' hc hh hp
end
end Go.Proofs.YtnelghpendfdmaaGreatDoor.B
set_option linter.unusedVariables false
namespace Go.Proofs.YtnelghpendfdmaaGreatDoor.B
open Go Go.RowKit
theorem and_i64 (m j : Nat) (hj : j ≤ 8) (hm : m = 2 ^ j - 1) (x : Int) : bits .and .i64 x (m : Int) = x % (2 ^ j : Nat) :=by
 have hm' : m < 256 :=by
  subst hm
  have : ∀ j : Fin 9,2 ^ j.val - 1 < 256 :=by decide
  exact this ⟨j,by omega⟩
 have e : (BitVec.ofInt 64 (m : Int)).toNat = m :=by simp;omega
 have d : (x % (2 ^ 64 : Int)).toNat % 2 ^ j = (x % (2 ^ j : Nat)).toNat :=by
  have h64 : (2 : Int) ^ 64 = (2 ^ j : Nat) * (2 ^ (64 - j) : Nat) :=by
   rw [← Int.natCast_mul,← Nat.pow_add,show j + (64 - j) = 64 by omega];rfl
  have n0 : 0 ≤ x % (2 ^ 64 : Int) :=Int.emod_nonneg _ (by decide)
  have p0 : (0 : Int) < (2 ^ j : Nat) :=by have :=Nat.two_pow_pos j;omega
  have q : (((x % (2 ^ 64 : Int)).toNat % 2 ^ j : Nat) : Int) = x % (2 ^ j : Nat) :=by
   rw [Int.natCast_emod,Int.toNat_of_nonneg n0,h64];exact Int.emod_emod_of_dvd x (Int.dvd_mul_right _ _)
  omega
 have p0 : (0 : Int) < (2 ^ j : Nat) :=by have :=Nat.two_pow_pos j;omega
 have u0 :=Int.emod_nonneg x (show ((2 ^ j : Nat) : Int) ≠ 0 by omega)
 have u1 :=Int.emod_lt_of_pos x p0
 have pj : 2 ^ j ≤ 256 :=by
  have : ∀ j : Fin 9,2 ^ j.val ≤ 256 :=by decide
  exact this ⟨j,by omega⟩
 change IntKind.i64.wrap (((BitVec.ofInt 64 x &&& BitVec.ofInt 64 (m : Int)).toNat : Nat) : Int) = _
 rw [BitVec.toNat_and,e,BitVec.toNat_ofInt]
 rw [hm,Nat.and_two_pow_sub_one_eq_mod,show ((2 ^ 64 : Nat) : Int) = (2 ^ 64 : Int) from rfl,d,Int.toNat_of_nonneg u0]
 rw [IntKind.wrap_i64];omega
theorem i64_7 (x : Int) : bits .and .i64 x 7 = x % 8 :=and_i64 7 3 (by decide) rfl x
theorem i64_3 (x : Int) : bits .and .i64 x 3 = x % 4 :=and_i64 3 2 (by decide) rfl x
end Go.Proofs.YtnelghpendfdmaaGreatDoor.B
namespace Go.Proofs.YtnelghpendfdmaaGreatDoor.HFun
open Go.RowKit Go.Proofs.YtnelghpendfdmaaGreatDoorW.PrintWords Go.Proofs.YtnelghpendfdmaaGreatDoorW.PrintLast Go.Proofs.YtnelghpendfdmaaGreatDoorW.PrintMore
attribute [local go_sem] max2_int min2_int max_two min_two max_three min_three max_four min_four   -- for this text's walks alone
set_option linter.unusedVariables false
set_option linter.unusedSimpArgs false
def errW : Option Int → Value
 | none => .nilIface
 | some c => .iface 0 (.int .i64 c)
theorem errW_none : errW none = .nilIface :=rfl
theorem errW_some (c : Int) : errW (some c) = .iface 0 (.int .i64 c) :=rfl
theorem info3 : (Tryz.prog.info? 3).map (fun i => (i.zero,i.size,i.bytes)) = some (some (.int .i64 0),1,8) :=by kernel_rfl
theorem info5 : (Tryz.prog.info? 5).map (fun i => (i.zero,i.size,i.bytes)) = some (some (.int .u8 0),1,1) :=by kernel_rfl
-- the values' own types
/-! #### struct type 56 -/
structure S56 where
 f0 : Int
 f1 : Int
 f2 : Int
 f3 : Int
def z56 : S56 :=⟨(0 : Int),(0 : Int),(0 : Int),(0 : Int)⟩
def k56 : Kd S56 :=Kd.iso (Kd.pair (Kd.int .i64) (Kd.pair (Kd.int .u16) (Kd.pair (Kd.int .u8) (Kd.int .i64)))) (fun x : S56 => (x.f0,x.f1,x.f2,x.f3))
theorem k56_open {w : World} {x : S56} {cs : List Value} (h : k56.K w x cs) : cs = [.int .i64 x.f0,.int .u16 x.f1,.int .u8 x.f2,.int .i64 x.f3] :=by
 obtain ⟨_,_,rfl,rfl,⟨_,_,rfl,rfl,⟨_,_,rfl,rfl,rfl⟩⟩⟩ :=h
 exact rfl
theorem k56_openM {w : World} {base : Nat} {ok : Nat → Prop} {x : S56} {cs : List Value} (h : k56.M w base ok x cs) : cs = [.int .i64 x.f0,.int .u16 x.f1,.int .u8 x.f2,.int .i64 x.f3] :=by
 obtain ⟨_,_,rfl,rfl,⟨_,_,rfl,rfl,⟨_,_,rfl,rfl,rfl⟩⟩⟩ :=h
 exact rfl
theorem k56_mkM (w : World) (base : Nat) (ok : Nat → Prop) (x : S56)  : k56.M w base ok x [.int .i64 x.f0,.int .u16 x.f1,.int .u8 x.f2,.int .i64 x.f3] :=⟨[.int .i64 x.f0],[.int .u16 x.f1,.int .u8 x.f2,.int .i64 x.f3],rfl,rfl,⟨[.int .u16 x.f1],[.int .u8 x.f2,.int .i64 x.f3],rfl,rfl,⟨[.int .u8 x.f2],[.int .i64 x.f3],rfl,rfl,rfl⟩⟩⟩
def zaw (xs : List S56) (i : Int) : S56 :=xs.getD i.toNat z56
theorem at_T56 {w : World} {A : Option Addr} {n : Nat} {xs : List S56} (h : Kd.C k56 w A n xs) (i : Int) (h0 : 0 ≤ i) (h1 : i < n) : ∃ ad ,A = some ad ∧ w.cell? (ad.add (i.toNat * 4)) = some (.int .i64 (zaw xs i).f0) ∧ w.cell? ⟨(ad.add (i.toNat * 4)).block,(ad.add (i.toNat * 4)).off + 1,none⟩ = some (.int .u16 (zaw xs i).f1) ∧ w.cell? ⟨(ad.add (i.toNat * 4)).block,(ad.add (i.toNat * 4)).off + 2,none⟩ = some (.int .u8 (zaw xs i).f2) ∧ w.cell? ⟨(ad.add (i.toNat * 4)).block,(ad.add (i.toNat * 4)).off + 3,none⟩ = some (.int .i64 (zaw xs i).f3) :=by
 obtain ⟨ad,c,e,_,hK,hc0⟩ :=Kd.C_get h z56 i h0 h1
 have hc : ∀ j u,c[j]? = some u → w.cell? (ad.add (i.toNat * 4 + j)) = some u :=hc0
 obtain rfl :=k56_open hK
 exact ⟨ad,e,hc 0 _ rfl,by rw [← add_field _ _ 1 (by omega)];exact hc 1 _ rfl,by rw [← add_field _ _ 2 (by omega)];exact hc 2 _ rfl,by rw [← add_field _ _ 3 (by omega)];exact hc 3 _ rfl⟩
end Go.Proofs.YtnelghpendfdmaaGreatDoor.HFun
namespace Go.Proofs.YtnelghpendfdmaaGreatDoor.KRow
set_option linter.unusedSimpArgs false
open Go Go.RowKit Go.Proofs.YtnelghpendfdmaaGreatDoorW.PrintWords Go.Proofs.YtnelghpendfdmaaGreatDoorW.PrintLast Go.Proofs.YtnelghpendfdmaaGreatDoorW.PrintMore
set_option linter.unusedVariables false
section
variable {P : Program} {ops : Array Oper} {S : World → Prop} {Q : Exit → Act → World → Prop} {tl : List Nat}
/-- The order: 0: it yields in every world; 1: it yields in every world of S; else: it is run, S holds behind it. Behind them the operations tl, one by one. -/
def Sch (P : Program) (ops : Array Oper) (S : World → Prop) (Q : Exit → Act → World → Prop) (tl : List Nat) : List (Nat × Nat) → Act → World → Prop
 | [],a,w => wpList P ops Q (tl.filterMap (ops[·]?)) a w
 | (i,0) :: r,a,w => ∃ o v,ops[i]? = some o ∧ Yields P ops o v a ∧ Sch P ops S Q tl r (a.put o.dst v) w
 | (i,1) :: r,a,w => ∃ o v,ops[i]? = some o ∧ YieldsIf P ops S o v a ∧ S w ∧ Sch P ops S Q tl r (a.put o.dst v) w
 | (i,_ + 2) :: r,a,w => ∃ o,ops[i]? = some o ∧ ∀ K : Act → World → Prop,(∀ a' w',S w' → Sch P ops S Q tl r a' w' → K a' w') → if Region.wanted o (yielded ops a.tmps) = true then Oper.wp P o a w K Q else K (a.put o.dst undef) w
def tlT (T : Bool × List (List Nat × List Nat)) : List Nat → List Bool → Bool
 | [],l => readyT T.2 l == []
 | i :: r,l => readyT T.2 l == [i] && tlT T r (l.set i true)
def schT (T : Bool × List (List Nat × List Nat)) (ds tl : List Nat) : List (Nat × Nat) → List Bool → Bool
 | [],l => tl.all (ds.contains ·) && tlT T tl l
 | (i,0) :: r,l => anyT T l (l.set i true) i && schT T ds tl r (l.set i true)
 | (i,1) :: r,l => takeT T ds l (l.set i true) i && schT T ds tl r (l.set i true)
 | (i,_ + 2) :: r,l => (readyT T.2 l == [i]) && !(ds.contains i) && schT T ds tl r (l.set i true)
theorem set_lit (l : Array Bool) (i : Nat) : (l.setIfInBounds i true).toList = l.toList.set i true :=by simp
theorem sch_tail {ds : List Nat} {T : Bool × List (List Nat × List Nat)} (hT : rtab .any ops = T) : ∀ (tl : List Nat) (l : Array Bool) (a : Act) (w : World),tl.all (ds.contains ·) = true → tlT T tl l.toList = true →
  wpList P ops Q (tl.filterMap (ops[·]?)) a w → wpAnyLast P .any ops Q S ds tl.length l a w
 | [],l,a,w,_,hB,h => by
  refine done_ (done_of hT ?_) h
  simpa [tlT] using hB
 | i :: r,l,a,w,hd,hB,h => by
  simp only [tlT,Bool.and_eq_true] at hB
  simp only [List.all_cons,Bool.and_eq_true] at hd
  cases ho : ops[i]? with
  | none =>
   exfalso
   have h1 : i ∈ readyT T.2 l.toList :=by rw [eq_of_beq hB.1];simp
   simp only [readyT,List.mem_filter,List.mem_range] at h1
   have h2 :=h1.1
   rw [← hT,rtab_length] at h2
   have :=Array.getElem?_eq_none_iff.1 ho
   omega
  | some o =>
   rw [List.filterMap_cons_some ho] at h
   have h1 : readyB .any ops l (l.setIfInBounds i true) i = true :=one_of hT (by rw [Bool.and_eq_true];exact ⟨hB.1,by rw [set_lit];simp⟩)
   simp only [readyB,Bool.and_eq_true,beq_iff_eq] at h1
   refine wpAnyLast_all h1.1 (by simp) (fun j hj => ?_)
   obtain rfl : j = i :=by simpa using hj
   refine wpOp_mono (K :=wpList P ops Q (r.filterMap (ops[·]?))) (fun a' w' h' => ⟨fun hn => absurd (by simpa using hd.1) hn,sch_tail hT r _ a' w' hd.2 (by rw [set_lit];exact hB.2) h'⟩) ?_
   unfold wpOp
   rw [ho]
   exact h
theorem sch_any {ds : List Nat} {T : Bool × List (List Nat × List Nat)} (hT : rtab .any ops = T) (hQ : ∀ c a d v w,Q (.panic c) (Act.put a d v) w → Q (.panic c) a w) : ∀ (r : List (Nat × Nat)) (l : Array Bool) (a : Act) (w : World),schT T ds tl r l.toList = true →
  Sch P ops S Q tl r a w → wpAnyLast P .any ops Q S ds (r.length + tl.length) l a w
 | [],l,a,w,hB,h => by
  simp only [schT,Bool.and_eq_true] at hB
  rw [List.length_nil,Nat.zero_add]
  exact sch_tail hT tl l a w hB.1 hB.2 h
 | (i,0) :: r,l,a,w,hB,h => by
  simp only [schT,Bool.and_eq_true] at hB
  obtain ⟨o,v,ho,hy,h⟩ :=h
  rw [show ((i,0) :: r).length + tl.length = (r.length + tl.length) + 1 by simp only [List.length_cons];omega]
  exact pure_ (l.setIfInBounds i true) ho rfl (any_of hT (by rw [set_lit];exact hB.1)) (fun c a w => hQ c a _ v w) hy rfl (sch_any hT hQ r _ _ w (by rw [set_lit];exact hB.2) h)
 | (i,1) :: r,l,a,w,hB,h => by
  simp only [schT,Bool.and_eq_true] at hB
  obtain ⟨o,v,ho,hy,hS,h⟩ :=h
  rw [show ((i,1) :: r).length + tl.length = (r.length + tl.length) + 1 by simp only [List.length_cons];omega]
  exact take_ (l.setIfInBounds i true) ho rfl (take_of hT (by rw [set_lit];exact hB.1)) (fun c a w => hQ c a _ v w) hy hS rfl (sch_any hT hQ r _ _ w (by rw [set_lit];exact hB.2) h)
 | (i,m + 2) :: r,l,a,w,hB,h => by
  simp only [schT,Bool.and_eq_true,Bool.not_eq_true'] at hB
  obtain ⟨o,ho,h⟩ :=h
  rw [show ((i,m + 2) :: r).length + tl.length = (r.length + tl.length) + 1 by simp only [List.length_cons];omega]
  refine one_ (l.setIfInBounds i true) ho rfl (one_of hT (by rw [Bool.and_eq_true];exact ⟨hB.1.1,by rw [set_lit];simp⟩)) (by simpa using hB.1.2) (fun K hK => ?_)
  exact h K (fun a' w' hS h' => hK a' w' hS (fun _ => sch_any hT hQ r _ a' w' (by rw [set_lit];exact hB.2) h'))
/-- A region that draws, in the order sch, then tl. -/
theorem zak {id : Nat} {a : Act} {w : World} (S : World → Prop) (sch : List (Nat × Nat)) (tl ds : List Nat) (n : Nat) (hm : P.follows .mixedOrders = true) (hn : ops.size = n) (hl : sch.length + tl.length = n) (hB : schT (rtab .any ops) ds tl sch (List.replicate n false) = true)
  (hQ : ∀ c a d v w,Q (.panic c) (Act.put a d v) w → Q (.panic c) a w) (hS : S w.drew) (h : Sch P ops S Q tl sch a w.drew) : (Code.region id ops true).wp P Q a w :=by
 subst hl
 refine start_ (n :=sch.length + tl.length) (S :=S) (ds :=ds) (Array.replicate (sch.length + tl.length) false) hm hn rfl hS (fun _ => ?_)
 exact sch_any rfl hQ sch _ a _ (by rw [Array.toList_replicate];exact hB) h
/-- The same, the world behind the draw a variable of which S is known. -/
theorem zad {id : Nat} {a : Act} {w : World} (S : World → Prop) (sch : List (Nat × Nat)) (tl ds : List Nat) (n : Nat) (hm : P.follows .mixedOrders = true) (hn : ops.size = n) (hl : sch.length + tl.length = n) (hB : schT (rtab .any ops) ds tl sch (List.replicate n false) = true)
  (hQ : ∀ c a d v w,Q (.panic c) (Act.put a d v) w → Q (.panic c) a w) (hS : S w.drew) (h : ∀ V,S V → Sch P ops S Q tl sch a V) : (Code.region id ops true).wp P Q a w :=zak S sch tl ds n hm hn hl hB hQ hS (h _ hS)
/-- The steps. -/
theorem Sch.pure {i : Nat} {o : Oper} {N : Option Tmp} {v : Value} {r : List (Nat × Nat)} {a a' : Act} {w : World} (ho : ops[i]? = some o) (hN : o.dst = N) (hg : Region.wanted o (yielded ops a.tmps) = true) (hy : ∀ w,(execOp a.eval o).run P w = .ok (.value v) w) (ha : a.put N v = a')
  (h : Sch P ops S Q tl r a' w) : Sch P ops S Q tl ((i,0) :: r) a w :=by
 subst ha
 subst hN
 exact ⟨o,v,ho,.inl ⟨hg,hy⟩,h⟩
theorem Sch.take {i : Nat} {o : Oper} {N : Option Tmp} {v : Value} {r : List (Nat × Nat)} {a a' : Act} {w : World} (ho : ops[i]? = some o) (hN : o.dst = N) (hg : Region.wanted o (yielded ops a.tmps) = true) (hS : S w) (hy : ∀ w,S w → (execOp a.eval o).run P w = .ok (.value v) w) (ha : a.put N v = a')
  (h : Sch P ops S Q tl r a' w) : Sch P ops S Q tl ((i,1) :: r) a w :=by
 subst ha
 subst hN
 exact ⟨o,v,ho,.inl ⟨hg,hy⟩,hS,h⟩
theorem Sch.pureN {i n : Nat} {o : Oper} {v : Value} {r : List (Nat × Nat)} {a a' : Act} {w : World} (ho : ops[i]? = some o) (hN : o.dst = some n) (hg : Region.wanted o (yielded ops a.tmps) = true) (hy : ∀ w,(execOp a.eval o).run P w = .ok (.value v) w) (ha : a.put (some n) v = a')
  (h : Sch P ops S Q tl r a' w) : Sch P ops S Q tl ((i,0) :: r) a w :=Sch.pure ho hN hg hy ha h
theorem Sch.takeN {i n : Nat} {o : Oper} {v : Value} {r : List (Nat × Nat)} {a a' : Act} {w : World} (ho : ops[i]? = some o) (hN : o.dst = some n) (hg : Region.wanted o (yielded ops a.tmps) = true) (hS : S w) (hy : ∀ w,S w → (execOp a.eval o).run P w = .ok (.value v) w) (ha : a.put (some n) v = a')
  (h : Sch P ops S Q tl r a' w) : Sch P ops S Q tl ((i,1) :: r) a w :=Sch.take ho hN hg hS hy ha h
theorem Sch.call {i m : Nat} {o : Oper} {N : Option Tmp} {r : List (Nat × Nat)} {a : Act} {w : World} {f : FuncId} {fn : Func} {xs : Array Operand} {ts : Array TypeId} (ho : ops[i]? = some o) (hN : o.dst = N) (hf : P.funcs[f]? = some fn) (hname : (fn.name == "runtime.NumGoroutine") = false) (hb : fn.body.isSome = true) (args : Array Value)
  (hg : Region.wanted o (yielded ops a.tmps) = true) (hop : o.op = .call { callee :=.value (.func f),args :=xs,argTypes :=ts }) (hargs : xs.map a.eval = args)
  (h : Calls P f args w fun
   | .returned v,w' => S w' ∧ Sch P ops S Q tl r (a.put N v) w'
   | .panicked c,w' => Q (.panic c) a w'
   | .outgrown,_ => LetsOut Q) : Sch P ops S Q tl ((i,m + 2) :: r) a w :=by
 refine ⟨o,ho,fun K hK => ?_⟩
 rw [if_pos hg]
 subst hN
 have he :=enters_ hf hname hb args w
 have hrun : (execOp a.eval o).run P w = .ok (.enter f args) w :=by
  unfold execOp
  simp [hop,resolve,Deferred.ofValue,invoke,Act.eval,hargs,he]
 unfold Oper.wp
 rw [hrun,Oper.upon_enter]
 refine h.mono fun e w' hh => ?_
 cases e with
 | returned v => exact hK _ _ hh.1 hh.2
 | panicked c => exact hh
 | outgrown => exact hh
theorem Sch.skip {i m : Nat} {o : Oper} {r : List (Nat × Nat)} {a : Act} {w w1 : World} (ho : ops[i]? = some o) (hN : o.dst = none) (hg : Region.wanted o (yielded ops a.tmps) = true) (hrun : (execOp a.eval o).run P w = .ok .skip w1) (hS : S w1)
  (h : Sch P ops S Q tl r a w1) : Sch P ops S Q tl ((i,m + 2) :: r) a w :=by
 refine ⟨o,ho,fun K hK => ?_⟩
 rw [if_pos hg]
 unfold Oper.wp
 rw [hrun,Oper.upon_skip]
 rw [show a.put o.dst undef = a by rw [hN];rfl]
 exact hK _ _ hS h
theorem range_picks (l : List Oper) : ∀ (m k : Nat),k + m = l.length → (List.range' k m).filterMap (l.toArray[·]?) = l.drop k
 | 0,k,h => by
  rw [List.range'_zero,List.filterMap_nil,List.drop_eq_nil_of_le (by omega)]
 | m + 1,k,h => by
  have hk : k < l.length :=by omega
  rw [List.range'_succ,List.filterMap_cons_some (b :=l[k]) (by simp [hk]),range_picks l m (k + 1) (by omega),List.drop_eq_getElem_cons hk]
theorem Sch.tail {l : List Oper} {a : Act} {w : World} (k m : Nat) (htl : tl = List.range' k m) (hl : k + m = l.length) (h : wpList P l.toArray Q (l.drop k) a w) : Sch P l.toArray S Q tl [] a w :=by
 subst htl
 rw [← range_picks l m k hl] at h
 exact h
theorem Sch.norm {r : List (Nat × Nat)} {a a' : Act} {w : World} (ha : a = a') (h : Sch P ops S Q tl r a' w) : Sch P ops S Q tl r a w :=by
 subst ha
 exact h
theorem gate_region (id : Nat) {P : Program} {ops : Array Oper} {Q : Exit → Act → World → Prop} {a : Act} {w : World} (h : (Code.region id ops true).wp P Q a w) : (Code.region id ops true).wp P Q a w :=h
end
end Go.Proofs.YtnelghpendfdmaaGreatDoor.KRow
