/-
 PROVED: the registers in a block of memory, and the contracts of package regs: index, single, reach, Pair, PutPair, Get, Put, Swap, Cond.
-/
import Derived.Test.YtnelghpendfdmaaGreatDoorKRow
import Derived.Test.YtnelghpendfdmaaGreatDoorHFunx2
namespace Go.Proofs.YtnelghpendfdmaaGreatDoor.KRow
set_option maxRecDepth 100000
set_option maxHeartbeats 16000000
open Go Go.RowKit Go.Proofs.YtnelghpendfdmaaGreatDoorW.PrintWords Go.Proofs.YtnelghpendfdmaaGreatDoorW.PrintLast Go.Proofs.YtnelghpendfdmaaGreatDoorW.PrintMore
open Go.Proofs.YtnelghpendfdmaaGreatDoor.HFun
set_option linter.unusedVariables false
set_option linter.unusedSimpArgs false
structure RgAt (W : World) (g : Nat) (r : Rg) : Prop where
 cell : ∀ k v,r.vals.toList[k]? = some v → W.cell? ⟨g,k,none⟩ = some v
 frz : ∀ k,W.frozen? ⟨g,k,none⟩ = false
def Rg.put (r : Rg) : Nat → Value → Rg
 | 0,.int .u8 v => { r with a :=v }
 | 1,.int .u8 v => { r with f :=v }
 | 2,.int .u8 v => { r with b :=v }
 | 3,.int .u8 v => { r with c :=v }
 | 4,.int .u8 v => { r with d :=v }
 | 5,.int .u8 v => { r with e :=v }
 | 6,.int .u8 v => { r with h :=v }
 | 7,.int .u8 v => { r with l :=v }
 | 8,.int .u8 v => { r with i :=v }
 | 9,.int .u8 v => { r with r :=v }
 | 10,.int .u16 v => { r with ix :=v }
 | 11,.int .u16 v => { r with iy :=v }
 | 12,.int .u16 v => { r with sp :=v }
 | 13,.int .u16 v => { r with pc :=v }
 | 14,.int .u16 v => { r with wz :=v }
 | 15,.int .u16 v => { r with af :=v }
 | 16,.int .u16 v => { r with bc :=v }
 | 17,.int .u16 v => { r with de :=v }
 | 18,.int .u16 v => { r with hl :=v }
 | 19,.bool v => { r with ff1 :=v }
 | 20,.bool v => { r with ff2 :=v }
 | 21,.int .i64 v => { r with im :=v }
 | 22,.bool v => { r with halt :=v }
 | 23,.bool v => { r with late :=v }
 | _,_ => r
section
variable {W V : World} {g g' : Nat} {r : Rg}
theorem RgAt.lt (h : RgAt W g r) : g < W.heap.size :=World.block_lt_of_cell? W _ (h.cell 0 _ rfl)
theorem RgAt.same (h : RgAt W g r) (hb : V.heap[g]? = W.heap[g]?) : RgAt V g r :=by
 refine ⟨fun k v hv => (World.cell?_of_block (w :=W) (a :=⟨g,k,none⟩) hb).trans (h.cell k v hv),fun k => ?_⟩
 have :=h.frz k
 rw [World.frozen?_of_block (w :=W) (a :=⟨g,k,none⟩) hb]
 exact this
theorem RgAt.under (h : RgAt W g r) (hk : Below W.heap.size W V) : RgAt V g r :=h.same (hk.block g h.lt)
theorem RgAt.kp (h : RgAt W g r) (hk : Kp g' W V) (hne : g ≠ g') : RgAt V g r :=h.same (hk.block g h.lt hne)
theorem RgAt.set (h : RgAt W g r) (k0 : Nat) (v0 : Value) (r' : Rg) (hv : r'.vals.toList = r.vals.toList.set k0 v0) (hlt : k0 < 24) : RgAt (W.setCell ⟨g,k0,none⟩ v0) g r' :=by
 obtain ⟨old,hold⟩ : ∃ u,r.vals.toList[k0]? = some u :=⟨_,List.getElem?_eq_getElem (by simpa [Rg.vals] using hlt)⟩
 refine ⟨fun k v hk => ?_,fun k => (World.frozen?_setCell _ _ _ _).trans (h.frz k)⟩
 rw [hv,List.getElem?_set] at hk
 by_cases e : k0 = k
 ·subst e
  simp only [if_true] at hk
  split at hk
  ·cases hk
   exact World.cell?_setCell_same W _ _ (h.cell k0 _ hold)
  ·cases hk
 ·rw [if_neg e] at hk
  exact (World.cell?_setCell_other W _ _ _ (by simp [e])).trans (h.cell k v hk)
theorem RgAt.range (h : RgAt W g r) : W.rangeAt g 0 r.vals.toList :=fun j v hj => h.cell (0 + j) v (by rw [Nat.zero_add];exact hj)
theorem RgAt.there (h : RgAt W g r) : W.there g 0 24 :=fun j hj => by
 obtain ⟨old,hold⟩ : ∃ u,r.vals.toList[0 + j]? = some u :=⟨_,List.getElem?_eq_getElem (by simp [Rg.vals];omega)⟩
 exact ⟨by rw [h.cell _ _ hold];rfl,h.frz _⟩
theorem RgAt.setAll (h : RgAt W g r) (r' : Rg) : RgAt (W.setCells g 0 r'.vals.toList) g r' :=by
 refine ⟨fun k v hk => ?_,fun k => (World.frozen?_setCells _ _ _ _ _).trans (h.frz k)⟩
 have h1 :=World.rangeAt_setCells_same W g 0 r'.vals.toList h.there k v
 rw [Nat.zero_add] at h1
 exact h1 hk
theorem RgAt.box (W : World) (r : Rg) : RgAt (W.alloc (.cells r.vals 24)) W.heap.size r :=by
 refine ⟨fun k v hv => ?_,fun k => ?_⟩
 ·simp only [World.cell?,heap_alloc_new]
  simpa using hv
 ·show (match (W.alloc (.cells r.vals 24)).heap[W.heap.size]? with | some (.cells _ _ (lo,hi)) => decide (lo ≤ k) && decide (k < hi) | _ => false) = false
  rw [heap_alloc_new]
  simp
theorem zaj {w : World} {B : Nat} (h : Below B w W) (k : Kp g W V) (hg : B ≤ g) (hB : B ≤ W.heap.size) : Below B w V :=h.trans (k.below hB hg)
/-- The walk's steps at a whole load, a whole store, a store of one cell. -/
theorem zal {ops : Array Oper} {rest : List Oper} {op : Oper} {a : Act} {Q : Exit → Act → World → Prop} (h : RgAt W g r) (hgd : op.guard = none) (x : Operand) (ho : op.op = .load 24 x)
  (hx : a.eval x = .pointer (some ⟨g,0,none⟩)) (k : wpList Tryz.prog ops Q rest (a.put op.dst (.agg r.vals)) W) : wpList Tryz.prog ops Q (op :: rest) a W :=
 wpList_load_mid hgd 24 x ho g 0 hx r.vals.toList _ h.range Tryz.underlying24 rfl info24 k
theorem zah {ops : Array Oper} {rest : List Oper} {op : Oper} {a : Act} {Q : Exit → Act → World → Prop} (h : RgAt W g r) (hgd : op.guard = none) (x y : Operand) (ho : op.op = .store 24 x y)
  (r' : Rg) (hx : a.eval x = .pointer (some ⟨g,0,none⟩)) (hy : a.eval y = .agg r'.vals)
  (k : ∀ V,Kp g W V → RgAt V g r' → wpList Tryz.prog ops Q rest (a.put op.dst undef) V) : wpList Tryz.prog ops Q (op :: rest) a W :=
 wpList_store_mid hgd 24 x y ho g 0 r'.vals hx hy h.there info24 (zcb r') (k _ (Kp.setCells 0 _ W (Kp.refl g W)) (h.setAll r'))
theorem wpList_rset {ops : Array Oper} {rest : List Oper} {op : Oper} {a : Act} {Q : Exit → Act → World → Prop} (h : RgAt W g r) (hgd : op.guard = none) (ty : TypeId) (x y : Operand) (ho : op.op = .store ty x y)
  (k0 : Nat) (v : Value) (hx : a.eval x = .pointer (some ⟨g,k0,none⟩)) (hy : a.eval y = v) (hi : (Tryz.prog.info? ty).map (·.size) = some 1) (hvc : v.cells = #[v]) (h1 : v.oneCell' = true) (hv : (r.put k0 v).vals.toList = r.vals.toList.set k0 v) (hlt : k0 < 24)
  (k : ∀ V,Kp g W V → RgAt V g (r.put k0 v) → wpList Tryz.prog ops Q rest (a.put op.dst undef) V) : wpList Tryz.prog ops Q (op :: rest) a W :=by
 refine wpList_plain hgd fun _ hK => ?_
 obtain ⟨old,hold⟩ : ∃ u,r.vals.toList[k0]? = some u :=⟨_,List.getElem?_eq_getElem (by simpa [Rg.vals] using hlt)⟩
 have hrun :=zbf (W :=W) (g :=g) hi v k0 hvc h1 (by rw [h.cell _ _ hold];rfl) (h.frz _)
 unfold Oper.wp execOp
 simp only [ho,hx,hy,Instr.storeAt,Instr.sureAddr,Sem.run_bind,Sem.run_pure,Result.andThen_ok,hrun]
 exact hK _ _ (k _ ((Kp.refl g W).setCell k0 v) (h.set k0 v _ hv hlt))
theorem zar {ops : Array Oper} {rest : List Oper} {op : Oper} {a : Act} {Q : Exit → Act → World → Prop} (h : RgAt W g r) (hgd : op.guard = none) (x y : Operand) (ho : op.op = .store 5 x y)
  (k0 : Nat) (v : Int) (hx : a.eval x = .pointer (some ⟨g,k0,none⟩)) (hy : a.eval y = .int .u8 v) (hv : (r.put k0 (.int .u8 v)).vals.toList = r.vals.toList.set k0 (.int .u8 v)) (hlt : k0 < 24)
  (k : ∀ V,Kp g W V → RgAt V g (r.put k0 (.int .u8 v)) → wpList Tryz.prog ops Q rest (a.put op.dst undef) V) : wpList Tryz.prog ops Q (op :: rest) a W :=
 wpList_rset h hgd 5 x y ho k0 _ hx hy (by kernel_rfl) rfl rfl hv hlt k
theorem zcd {ops : Array Oper} {rest : List Oper} {op : Oper} {a : Act} {Q : Exit → Act → World → Prop} (h : RgAt W g r) (hgd : op.guard = none) (x y : Operand) (ho : op.op = .store 22 x y)
  (k0 : Nat) (v : Int) (hx : a.eval x = .pointer (some ⟨g,k0,none⟩)) (hy : a.eval y = .int .u16 v) (hv : (r.put k0 (.int .u16 v)).vals.toList = r.vals.toList.set k0 (.int .u16 v)) (hlt : k0 < 24)
  (k : ∀ V,Kp g W V → RgAt V g (r.put k0 (.int .u16 v)) → wpList Tryz.prog ops Q rest (a.put op.dst undef) V) : wpList Tryz.prog ops Q (op :: rest) a W :=
 wpList_rset h hgd 22 x y ho k0 _ hx hy (by kernel_rfl) rfl rfl hv hlt k
theorem zaq {fn : Func} {p : Tmp} (hf : fn.results = #[.cell p 24]) (tmps : Array Value) (h : RgAt W g r) (hp : tmps.getD p undef = .pointer (some ⟨g,0,none⟩)) : (results fn tmps).run Tryz.prog W = .ok (.agg r.vals) W :=by
 have hp' : tmps[p]?.getD undef = .pointer (some ⟨g,0,none⟩) :=by simpa using hp
 simp [results,hf,hp',asAddr,run_loadVar_mid (P :=Tryz.prog) W g 0 24 r.vals.toList _ h.range Tryz.underlying24 rfl info24]
def zeroRg : Rg :=⟨0,0,0,0,0,0,0,0,0,0,0,0,0,0,0,0,0,0,0,false,false,0,false,false⟩
/-- The worlds behind the box of the argument, and the box of the result. -/
theorem gen1r {P : World → Prop} (w : World) (r : Rg) (k : ∀ V,Below w.heap.size w V → w.heap.size < V.heap.size → RgAt V w.heap.size r → P V) : P (w.alloc (.cells r.vals 24)) :=
 k _ (below_alloc (Below.refl _ _) _) (by simp) (RgAt.box w r)
theorem zbs {P : World → Prop} (w : World) (r : Rg) (k : ∀ V,Below w.heap.size w V → w.heap.size + 1 < V.heap.size → RgAt V w.heap.size r → RgAt V (w.heap.size + 1) zeroRg → P V) : P ((w.alloc (.cells r.vals 24)).alloc (.cells zeroRg.vals 24)) :=
 k _ (below_alloc (below_alloc (Below.refl _ _) _) _) (by simp) ((RgAt.box w r).under (below_alloc (Below.refl _ _) _)) (by have :=RgAt.box (w.alloc (.cells r.vals 24)) zeroRg;simpa using this)
end
def zbg (h l : Int) : Int :=Go.bits .or .u16 (IntKind.u16.wrap ((IntKind.u16.wrap h) * 256)) (IntKind.u16.wrap l)
theorem zba (h l : Int) : ydh.f h l = some (zbg h l) :=rfl
theorem zby (a : Int) : ydr.f a = some (a / 256 % 256,a % 256) :=rfl
def rmod (a m : Int) : Int :=Int.tmod (wrap64 ((Int.tmod a m) + m)) m
theorem zbq (a m : Int) (h : m ≠ 0) : ycg.f a m = some (rmod a m) :=by
 unfold ycg.f
 rw [if_neg h]
 rfl
theorem zaa {w W : World} (d : Drawn0 w W) : Below w.heap.size w W :=by
 obtain ⟨n,rfl⟩ :=d.out
 exact pw_below_drewN (Below.refl _ _) n
theorem reach0 (g : Nat) (i : Int) (st : Bool) (w : World) :
  Calls Tryz.prog 114 #[.pointer (some ⟨g,0,none⟩),.int .i64 i,.int .i64 0,.bool st] w fun e w' => e = .returned (.tuple #[.func (.func 153) #[.agg #[.pointer (some ⟨g,2,none⟩),.pointer (some ⟨g,3,none⟩)]] #[],.func (.func 154) #[.agg #[.pointer (some ⟨g,2,none⟩),.pointer (some ⟨g,3,none⟩)]] #[]]) ∧ Below w.heap.size w w' :=by
 have hmf : ∀ (fn : Fn) (first cap : Array Value) (w : World),(Instr.makeFunc fn first cap).run Tryz.prog w = .ok (.func fn first cap) w :=fun _ _ _ _ => rfl
 go_enter Tryz.func114,Tryz.ntmps114
 go_wp2_with (first | ((with_reducible refine gate_region 5 ?_);(refine zak (fun W' => W' = W') [(0,0),(1,0),(2,0)] [3,4,5,6,7] [3,4,5,6,7] 8 (by kernel_rfl) rfl rfl (by kernel_rfl) (by intro c a d v w h;cases d <;> exact h) rfl ?_);(repeat ((refine Sch.pureN (v :=?_) (a' :=?_) rfl rfl (by rfl) ?_ ?_ ?_;rotate_left 2;(· (intro w';go_simp <;> with_reducible rfl)));(· (simp only [aput] <;> rfl))));(refine Sch.tail 3 5 rfl rfl ?_;simp only [List.drop_succ_cons,List.drop_zero,List.drop_nil])) | ((with_reducible refine gate_region 14 ?_);(refine zak (fun W' => W'.cell? ⟨w.heap.size,0,none⟩ = some (.pointer (some ⟨g,2,none⟩)) ∧ W'.cell? ⟨w.heap.size,1,none⟩ = some (.pointer (some ⟨g,3,none⟩))) [(0,1),(1,0),(4,0),(2,1),(3,0)] [5] [5] 6 (by kernel_rfl) rfl rfl (by kernel_rfl) (by intro c a d v w h;cases d <;> exact h) (by constructor <;> (go_simp <;> rfl)) ?_);(repeat ((first | (refine Sch.pureN (v :=?_) (a' :=?_) rfl rfl (by rfl) ?_ ?_ ?_;rotate_left 2;(· (intro w';go_simp <;> with_reducible rfl))) | (refine Sch.takeN (v :=?_) (a' :=?_) rfl rfl (by rfl) (by constructor <;> (go_simp <;> rfl)) ?_ ?_ ?_;rotate_left 2;(· (intro w' hS';(obtain ⟨q0,q1⟩ :=hS';go_simp <;> with_reducible rfl)))));(· (simp only [aput] <;> rfl))));(refine Sch.tail 5 1 rfl rfl ?_;simp only [List.drop_succ_cons,List.drop_zero,List.drop_nil])))
 go_ret2
 exact ⟨rfl,by repeat (first | exact Below.refl _ _ | apply below_alloc | apply pw_below_drewN)⟩
theorem reach1 (g : Nat) (i : Int) (st : Bool) (w : World) :
  Calls Tryz.prog 114 #[.pointer (some ⟨g,0,none⟩),.int .i64 i,.int .i64 1,.bool st] w fun e w' => e = .returned (.tuple #[.func (.func 153) #[.agg #[.pointer (some ⟨g,4,none⟩),.pointer (some ⟨g,5,none⟩)]] #[],.func (.func 154) #[.agg #[.pointer (some ⟨g,4,none⟩),.pointer (some ⟨g,5,none⟩)]] #[]]) ∧ Below w.heap.size w w' :=by
 have hmf : ∀ (fn : Fn) (first cap : Array Value) (w : World),(Instr.makeFunc fn first cap).run Tryz.prog w = .ok (.func fn first cap) w :=fun _ _ _ _ => rfl
 go_enter Tryz.func114,Tryz.ntmps114
 go_wp2_with (first | ((with_reducible refine gate_region 7 ?_);(refine zak (fun W' => W' = W') [(0,0),(1,0),(2,0)] [3,4,5,6,7] [3,4,5,6,7] 8 (by kernel_rfl) rfl rfl (by kernel_rfl) (by intro c a d v w h;cases d <;> exact h) rfl ?_);(repeat ((refine Sch.pureN (v :=?_) (a' :=?_) rfl rfl (by rfl) ?_ ?_ ?_;rotate_left 2;(· (intro w';go_simp <;> with_reducible rfl)));(· (simp only [aput] <;> rfl))));(refine Sch.tail 3 5 rfl rfl ?_;simp only [List.drop_succ_cons,List.drop_zero,List.drop_nil])) | ((with_reducible refine gate_region 14 ?_);(refine zak (fun W' => W'.cell? ⟨w.heap.size,0,none⟩ = some (.pointer (some ⟨g,4,none⟩)) ∧ W'.cell? ⟨w.heap.size,1,none⟩ = some (.pointer (some ⟨g,5,none⟩))) [(0,1),(1,0),(4,0),(2,1),(3,0)] [5] [5] 6 (by kernel_rfl) rfl rfl (by kernel_rfl) (by intro c a d v w h;cases d <;> exact h) (by constructor <;> (go_simp <;> rfl)) ?_);(repeat ((first | (refine Sch.pureN (v :=?_) (a' :=?_) rfl rfl (by rfl) ?_ ?_ ?_;rotate_left 2;(· (intro w';go_simp <;> with_reducible rfl))) | (refine Sch.takeN (v :=?_) (a' :=?_) rfl rfl (by rfl) (by constructor <;> (go_simp <;> rfl)) ?_ ?_ ?_;rotate_left 2;(· (intro w' hS';(obtain ⟨q0,q1⟩ :=hS';go_simp <;> with_reducible rfl)))));(· (simp only [aput] <;> rfl))));(refine Sch.tail 5 1 rfl rfl ?_;simp only [List.drop_succ_cons,List.drop_zero,List.drop_nil])))
 go_ret2
 exact ⟨rfl,by repeat (first | exact Below.refl _ _ | apply below_alloc | apply pw_below_drewN)⟩
theorem reach3 (g : Nat) (i : Int) (w : World) :
  Calls Tryz.prog 114 #[.pointer (some ⟨g,0,none⟩),.int .i64 i,.int .i64 3,.bool true] w fun e w' => e = .returned (.tuple #[.func (.func 153) #[.agg #[.pointer (some ⟨g,0,none⟩),.pointer (some ⟨g,1,none⟩)]] #[],.func (.func 154) #[.agg #[.pointer (some ⟨g,0,none⟩),.pointer (some ⟨g,1,none⟩)]] #[]]) ∧ Below w.heap.size w w' :=by
 have hmf : ∀ (fn : Fn) (first cap : Array Value) (w : World),(Instr.makeFunc fn first cap).run Tryz.prog w = .ok (.func fn first cap) w :=fun _ _ _ _ => rfl
 go_enter Tryz.func114,Tryz.ntmps114
 go_wp2_with (first | ((with_reducible refine gate_region 9 ?_);(refine zak (fun W' => W' = W') [(0,0),(1,0),(2,0)] [3,4,5,6,7] [3,4,5,6,7] 8 (by kernel_rfl) rfl rfl (by kernel_rfl) (by intro c a d v w h;cases d <;> exact h) rfl ?_);(repeat ((refine Sch.pureN (v :=?_) (a' :=?_) rfl rfl (by rfl) ?_ ?_ ?_;rotate_left 2;(· (intro w';go_simp <;> with_reducible rfl)));(· (simp only [aput] <;> rfl))));(refine Sch.tail 3 5 rfl rfl ?_;simp only [List.drop_succ_cons,List.drop_zero,List.drop_nil])) | ((with_reducible refine gate_region 14 ?_);(refine zak (fun W' => W'.cell? ⟨w.heap.size,0,none⟩ = some (.pointer (some ⟨g,0,none⟩)) ∧ W'.cell? ⟨w.heap.size,1,none⟩ = some (.pointer (some ⟨g,1,none⟩))) [(0,1),(1,0),(4,0),(2,1),(3,0)] [5] [5] 6 (by kernel_rfl) rfl rfl (by kernel_rfl) (by intro c a d v w h;cases d <;> exact h) (by constructor <;> (go_simp <;> rfl)) ?_);(repeat ((first | (refine Sch.pureN (v :=?_) (a' :=?_) rfl rfl (by rfl) ?_ ?_ ?_;rotate_left 2;(· (intro w';go_simp <;> with_reducible rfl))) | (refine Sch.takeN (v :=?_) (a' :=?_) rfl rfl (by rfl) (by constructor <;> (go_simp <;> rfl)) ?_ ?_ ?_;rotate_left 2;(· (intro w' hS';(obtain ⟨q0,q1⟩ :=hS';go_simp <;> with_reducible rfl)))));(· (simp only [aput] <;> rfl))));(refine Sch.tail 5 1 rfl rfl ?_;simp only [List.drop_succ_cons,List.drop_zero,List.drop_nil])))
 go_ret2
 exact ⟨rfl,by repeat (first | exact Below.refl _ _ | apply below_alloc | apply pw_below_drewN)⟩
theorem reach2 (g : Nat) (st : Bool) (w : World) :
  Calls Tryz.prog 114 #[.pointer (some ⟨g,0,none⟩),.int .i64 0,.int .i64 2,.bool st] w fun e w' => e = .returned (.tuple #[.func (.func 153) #[.agg #[.pointer (some ⟨g,6,none⟩),.pointer (some ⟨g,7,none⟩)]] #[],.func (.func 154) #[.agg #[.pointer (some ⟨g,6,none⟩),.pointer (some ⟨g,7,none⟩)]] #[]]) ∧ Below w.heap.size w w' :=by
 have hmf : ∀ (fn : Fn) (first cap : Array Value) (w : World),(Instr.makeFunc fn first cap).run Tryz.prog w = .ok (.func fn first cap) w :=fun _ _ _ _ => rfl
 go_enter Tryz.func114,Tryz.ntmps114
 go_wp2_with (first | ((with_reducible refine gate_region 3 ?_);(refine zak (fun W' => W' = W') [(0,0),(1,0),(2,0)] [3,4,5,6,7] [3,4,5,6,7] 8 (by kernel_rfl) rfl rfl (by kernel_rfl) (by intro c a d v w h;cases d <;> exact h) rfl ?_);(repeat ((refine Sch.pureN (v :=?_) (a' :=?_) rfl rfl (by rfl) ?_ ?_ ?_;rotate_left 2;(· (intro w';go_simp <;> with_reducible rfl)));(· (simp only [aput] <;> rfl))));(refine Sch.tail 3 5 rfl rfl ?_;simp only [List.drop_succ_cons,List.drop_zero,List.drop_nil])) | ((with_reducible refine gate_region 14 ?_);(refine zak (fun W' => W'.cell? ⟨w.heap.size,0,none⟩ = some (.pointer (some ⟨g,6,none⟩)) ∧ W'.cell? ⟨w.heap.size,1,none⟩ = some (.pointer (some ⟨g,7,none⟩))) [(0,1),(1,0),(4,0),(2,1),(3,0)] [5] [5] 6 (by kernel_rfl) rfl rfl (by kernel_rfl) (by intro c a d v w h;cases d <;> exact h) (by constructor <;> (go_simp <;> rfl)) ?_);(repeat ((first | (refine Sch.pureN (v :=?_) (a' :=?_) rfl rfl (by rfl) ?_ ?_ ?_;rotate_left 2;(· (intro w';go_simp <;> with_reducible rfl))) | (refine Sch.takeN (v :=?_) (a' :=?_) rfl rfl (by rfl) (by constructor <;> (go_simp <;> rfl)) ?_ ?_ ?_;rotate_left 2;(· (intro w' hS';(obtain ⟨q0,q1⟩ :=hS';go_simp <;> with_reducible rfl)))));(· (simp only [aput] <;> rfl))));(refine Sch.tail 5 1 rfl rfl ?_;simp only [List.drop_succ_cons,List.drop_zero,List.drop_nil])))
 go_ret2
 exact ⟨rfl,by repeat (first | exact Below.refl _ _ | apply below_alloc | apply pw_below_drewN)⟩
theorem jo4 : (∀ (g : Nat) (w : World), Calls Tryz.prog 120 #[.pointer (some ⟨g,0,none⟩),.int .i64 0] w fun e w' => e = .returned (.pointer none) ∧ Below w.heap.size w w') ∧ (∀ (g : Nat) (w : World), Calls Tryz.prog 120 #[.pointer (some ⟨g,0,none⟩),.int .i64 1] w fun e w' => e = .returned (.pointer (some ⟨g,10,none⟩)) ∧ Below w.heap.size w w') ∧ (∀ (g : Nat) (w : World), Calls Tryz.prog 120 #[.pointer (some ⟨g,0,none⟩),.int .i64 2] w fun e w' => e = .returned (.pointer (some ⟨g,11,none⟩)) ∧ Below w.heap.size w w') :=by
 refine ⟨?_,?_,?_⟩
 all_goals
  intro g w
  have hix : ∀ w : World,(Instr.index 164 (.agg #[.pointer none,.pointer (some ⟨g,10,none⟩),.pointer (some ⟨g,11,none⟩)]) (.int .i64 0)).run Tryz.prog w = .ok (.pointer none) w :=fun _ => rfl
  have hix : ∀ w : World,(Instr.index 164 (.agg #[.pointer none,.pointer (some ⟨g,10,none⟩),.pointer (some ⟨g,11,none⟩)]) (.int .i64 1)).run Tryz.prog w = .ok (.pointer (some ⟨g,10,none⟩)) w :=fun _ => rfl
  have hix : ∀ w : World,(Instr.index 164 (.agg #[.pointer none,.pointer (some ⟨g,10,none⟩),.pointer (some ⟨g,11,none⟩)]) (.int .i64 2)).run Tryz.prog w = .ok (.pointer (some ⟨g,11,none⟩)) w :=fun _ => rfl
  go_enter Tryz.func120,Tryz.ntmps120
  go_wp2_with ((with_reducible refine gate_region 1 ?_);(refine zak (fun W' => W' = W') [(0,0),(1,0),(2,0),(3,0),(4,0),(5,0),(6,0)] [7,8,9] [7,8,9] 10 (by kernel_rfl) rfl rfl (by kernel_rfl) (by intro c a d v w h;cases d <;> exact h) rfl ?_);(repeat (refine Sch.pureN (v :=?_) (a' :=?_) rfl rfl (by rfl) ?_ ?_ ?_;rotate_left 2;(· (intro w';go_simp <;> with_reducible rfl));(· (simp only [aput] <;> rfl))));(refine Sch.tail 7 3 rfl rfl ?_;simp only [List.drop_succ_cons,List.drop_zero,List.drop_nil]))
  go_ret
  exact ⟨rfl,by repeat (first | exact Below.refl _ _ | apply pw_below_drewN)⟩
theorem jo5 : (∀ (g : Nat) (w : World), Calls Tryz.prog 121 #[.pointer (some ⟨g,0,none⟩),.int .i64 0] w fun e w' => e = .returned (.pointer (some ⟨g,2,none⟩)) ∧ Below w.heap.size w w') ∧ (∀ (g : Nat) (w : World), Calls Tryz.prog 121 #[.pointer (some ⟨g,0,none⟩),.int .i64 1] w fun e w' => e = .returned (.pointer (some ⟨g,3,none⟩)) ∧ Below w.heap.size w w') ∧ (∀ (g : Nat) (w : World), Calls Tryz.prog 121 #[.pointer (some ⟨g,0,none⟩),.int .i64 2] w fun e w' => e = .returned (.pointer (some ⟨g,4,none⟩)) ∧ Below w.heap.size w w') ∧ (∀ (g : Nat) (w : World), Calls Tryz.prog 121 #[.pointer (some ⟨g,0,none⟩),.int .i64 3] w fun e w' => e = .returned (.pointer (some ⟨g,5,none⟩)) ∧ Below w.heap.size w w') ∧ (∀ (g : Nat) (w : World), Calls Tryz.prog 121 #[.pointer (some ⟨g,0,none⟩),.int .i64 4] w fun e w' => e = .returned (.pointer (some ⟨g,6,none⟩)) ∧ Below w.heap.size w w') ∧ (∀ (g : Nat) (w : World), Calls Tryz.prog 121 #[.pointer (some ⟨g,0,none⟩),.int .i64 5] w fun e w' => e = .returned (.pointer (some ⟨g,7,none⟩)) ∧ Below w.heap.size w w') ∧ (∀ (g : Nat) (w : World), Calls Tryz.prog 121 #[.pointer (some ⟨g,0,none⟩),.int .i64 7] w fun e w' => e = .returned (.pointer (some ⟨g,0,none⟩)) ∧ Below w.heap.size w w') :=by
 refine ⟨?_,?_,?_,?_,?_,?_,?_⟩
 all_goals
  intro g w
  have hix : ∀ w : World,(Instr.index 165 (.agg #[.pointer (some ⟨g,2,none⟩),.pointer (some ⟨g,3,none⟩),.pointer (some ⟨g,4,none⟩),.pointer (some ⟨g,5,none⟩),.pointer (some ⟨g,6,none⟩),.pointer (some ⟨g,7,none⟩),.pointer none,.pointer (some ⟨g,0,none⟩)]) (.int .i64 0)).run Tryz.prog w = .ok (.pointer (some ⟨g,2,none⟩)) w :=fun _ => rfl
  have hix : ∀ w : World,(Instr.index 165 (.agg #[.pointer (some ⟨g,2,none⟩),.pointer (some ⟨g,3,none⟩),.pointer (some ⟨g,4,none⟩),.pointer (some ⟨g,5,none⟩),.pointer (some ⟨g,6,none⟩),.pointer (some ⟨g,7,none⟩),.pointer none,.pointer (some ⟨g,0,none⟩)]) (.int .i64 1)).run Tryz.prog w = .ok (.pointer (some ⟨g,3,none⟩)) w :=fun _ => rfl
  have hix : ∀ w : World,(Instr.index 165 (.agg #[.pointer (some ⟨g,2,none⟩),.pointer (some ⟨g,3,none⟩),.pointer (some ⟨g,4,none⟩),.pointer (some ⟨g,5,none⟩),.pointer (some ⟨g,6,none⟩),.pointer (some ⟨g,7,none⟩),.pointer none,.pointer (some ⟨g,0,none⟩)]) (.int .i64 2)).run Tryz.prog w = .ok (.pointer (some ⟨g,4,none⟩)) w :=fun _ => rfl
  have hix : ∀ w : World,(Instr.index 165 (.agg #[.pointer (some ⟨g,2,none⟩),.pointer (some ⟨g,3,none⟩),.pointer (some ⟨g,4,none⟩),.pointer (some ⟨g,5,none⟩),.pointer (some ⟨g,6,none⟩),.pointer (some ⟨g,7,none⟩),.pointer none,.pointer (some ⟨g,0,none⟩)]) (.int .i64 3)).run Tryz.prog w = .ok (.pointer (some ⟨g,5,none⟩)) w :=fun _ => rfl
  have hix : ∀ w : World,(Instr.index 165 (.agg #[.pointer (some ⟨g,2,none⟩),.pointer (some ⟨g,3,none⟩),.pointer (some ⟨g,4,none⟩),.pointer (some ⟨g,5,none⟩),.pointer (some ⟨g,6,none⟩),.pointer (some ⟨g,7,none⟩),.pointer none,.pointer (some ⟨g,0,none⟩)]) (.int .i64 4)).run Tryz.prog w = .ok (.pointer (some ⟨g,6,none⟩)) w :=fun _ => rfl
  have hix : ∀ w : World,(Instr.index 165 (.agg #[.pointer (some ⟨g,2,none⟩),.pointer (some ⟨g,3,none⟩),.pointer (some ⟨g,4,none⟩),.pointer (some ⟨g,5,none⟩),.pointer (some ⟨g,6,none⟩),.pointer (some ⟨g,7,none⟩),.pointer none,.pointer (some ⟨g,0,none⟩)]) (.int .i64 5)).run Tryz.prog w = .ok (.pointer (some ⟨g,7,none⟩)) w :=fun _ => rfl
  have hix : ∀ w : World,(Instr.index 165 (.agg #[.pointer (some ⟨g,2,none⟩),.pointer (some ⟨g,3,none⟩),.pointer (some ⟨g,4,none⟩),.pointer (some ⟨g,5,none⟩),.pointer (some ⟨g,6,none⟩),.pointer (some ⟨g,7,none⟩),.pointer none,.pointer (some ⟨g,0,none⟩)]) (.int .i64 7)).run Tryz.prog w = .ok (.pointer (some ⟨g,0,none⟩)) w :=fun _ => rfl
  go_enter Tryz.func121,Tryz.ntmps121
  go_wp2_with ((with_reducible refine gate_region 1 ?_);(refine zak (fun W' => W' = W') [(0,0),(1,0),(2,0),(3,0),(4,0),(5,0),(6,0),(7,0),(8,0),(9,0),(10,0),(11,0),(12,0),(13,0),(14,0),(15,0),(16,0),(17,0),(18,0),(19,0),(20,0),(21,0)] [22,23,24] [22,23,24] 25 (by kernel_rfl) rfl rfl (by kernel_rfl) (by intro c a d v w h;cases d <;> exact h) rfl ?_);(repeat (refine Sch.pureN (v :=?_) (a' :=?_) rfl rfl (by rfl) ?_ ?_ ?_;rotate_left 2;(· (intro w';go_simp <;> with_reducible rfl));(· (simp only [aput] <;> rfl))));(refine Sch.tail 22 3 rfl rfl ?_;simp only [List.drop_succ_cons,List.drop_zero,List.drop_nil]))
  go_ret
  exact ⟨rfl,by repeat (first | exact Below.refl _ _ | apply pw_below_drewN)⟩
theorem whole (g o : Nat) (w : World) :
  Calls Tryz.prog 150 #[.pointer (some ⟨g,o,none⟩)] w fun e w' => ∃ b,e = .returned (.tuple #[.func (.func 151) #[] #[.pointer (some ⟨b,0,none⟩)],.func (.func 152) #[] #[.pointer (some ⟨b,0,none⟩)]]) ∧ w.heap.size ≤ b ∧ Below w.heap.size w w' ∧ w'.cell? ⟨b,0,none⟩ = some (.pointer (some ⟨g,o,none⟩)) :=by
 have hmf : ∀ (fn : Fn) (first cap : Array Value) (w : World),(Instr.makeFunc fn first cap).run Tryz.prog w = .ok (.func fn first cap) w :=fun _ _ _ _ => rfl
 go_enter Tryz.func150,Tryz.ntmps150
 go_wp2_with fail
 go_ret2
 exact ⟨_,rfl,Nat.le_refl _,by repeat (first | exact Below.refl _ _ | apply below_alloc),by go_simp⟩
theorem below_then {B : Nat} {w W V : World} (h : Below B w W) (hB : B ≤ W.heap.size) (k : Below W.heap.size W V) : Below B w V :=h.trans (k.mono hB)
theorem reachS (g : Nat) (i : Int) (w : World) :
  Calls Tryz.prog 114 #[.pointer (some ⟨g,0,none⟩),.int .i64 i,.int .i64 3,.bool false] w fun e w' => ∃ b,e = .returned (.tuple #[.func (.func 151) #[] #[.pointer (some ⟨b,0,none⟩)],.func (.func 152) #[] #[.pointer (some ⟨b,0,none⟩)]]) ∧ w.heap.size ≤ b ∧ Below w.heap.size w w' ∧ w'.cell? ⟨b,0,none⟩ = some (.pointer (some ⟨g,12,none⟩)) :=by
 have hmf : ∀ (fn : Fn) (first cap : Array Value) (w : World),(Instr.makeFunc fn first cap).run Tryz.prog w = .ok (.func fn first cap) w :=fun _ _ _ _ => rfl
 go_enter Tryz.func114,Tryz.ntmps114
 go_wp2_with (go_at_call 150;refine (whole _ _ _).mono ?_;rintro e w' ⟨b,rfl,hb,hbl,hc⟩)
 go_ret2
 exact ⟨_,rfl,by simp at hb;omega,below_then (by repeat (first | exact Below.refl _ _ | apply below_alloc)) (by simp) hbl,hc⟩
theorem reachI1 (g : Nat) (st : Bool) (w : World) :
  Calls Tryz.prog 114 #[.pointer (some ⟨g,0,none⟩),.int .i64 1,.int .i64 2,.bool st] w fun e w' => ∃ b,e = .returned (.tuple #[.func (.func 151) #[] #[.pointer (some ⟨b,0,none⟩)],.func (.func 152) #[] #[.pointer (some ⟨b,0,none⟩)]]) ∧ w.heap.size ≤ b ∧ Below w.heap.size w w' ∧ w'.cell? ⟨b,0,none⟩ = some (.pointer (some ⟨g,10,none⟩)) :=by
 have hmf : ∀ (fn : Fn) (first cap : Array Value) (w : World),(Instr.makeFunc fn first cap).run Tryz.prog w = .ok (.func fn first cap) w :=fun _ _ _ _ => rfl
 go_enter Tryz.func114,Tryz.ntmps114
 go_wp2_with (first | (go_at_call 150;refine (whole _ _ _).mono ?_;rintro e w' ⟨b,rfl,hb,hbl,hc⟩) | (go_at_call 120;refine (jo4.2.1 _ _).mono ?_;rintro e w' ⟨rfl,hbi⟩;have hB0 :=below_then (B :=w.heap.size) (w :=w) (by repeat (first | exact Below.refl _ _ | apply below_alloc)) (by simp) hbi;clear hbi))
 go_ret2
 exact ⟨_,rfl,by have :=hB0.size;omega,below_then hB0 hB0.size hbl,hc⟩
theorem reachI2 (g : Nat) (st : Bool) (w : World) :
  Calls Tryz.prog 114 #[.pointer (some ⟨g,0,none⟩),.int .i64 2,.int .i64 2,.bool st] w fun e w' => ∃ b,e = .returned (.tuple #[.func (.func 151) #[] #[.pointer (some ⟨b,0,none⟩)],.func (.func 152) #[] #[.pointer (some ⟨b,0,none⟩)]]) ∧ w.heap.size ≤ b ∧ Below w.heap.size w w' ∧ w'.cell? ⟨b,0,none⟩ = some (.pointer (some ⟨g,11,none⟩)) :=by
 have hmf : ∀ (fn : Fn) (first cap : Array Value) (w : World),(Instr.makeFunc fn first cap).run Tryz.prog w = .ok (.func fn first cap) w :=fun _ _ _ _ => rfl
 go_enter Tryz.func114,Tryz.ntmps114
 go_wp2_with (first | (go_at_call 150;refine (whole _ _ _).mono ?_;rintro e w' ⟨b,rfl,hb,hbl,hc⟩) | (go_at_call 120;refine (jo4.2.2 _ _).mono ?_;rintro e w' ⟨rfl,hbi⟩;have hB0 :=below_then (B :=w.heap.size) (w :=w) (by repeat (first | exact Below.refl _ _ | apply below_alloc)) (by simp) hbi;clear hbi))
 go_ret2
 exact ⟨_,rfl,by have :=hB0.size;omega,below_then hB0 hB0.size hbl,hc⟩

end Go.Proofs.YtnelghpendfdmaaGreatDoor.KRow
