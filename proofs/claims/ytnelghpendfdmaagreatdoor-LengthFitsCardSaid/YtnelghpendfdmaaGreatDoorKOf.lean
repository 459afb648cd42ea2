/-
  PROVED: the contract of pendulumref09.Of.
-/
import Derived.Test.YtnelghpendfdmaaGreatDoorKFv
namespace Go.Proofs.YtnelghpendfdmaaGreatDoor.KRow
set_option maxRecDepth 100000
set_option maxHeartbeats 16000000
open Go Go.RowKit Go.Proofs.YtnelghpendfdmaaGreatDoorW.PrintWords Go.Proofs.YtnelghpendfdmaaGreatDoorW.PrintLast Go.Proofs.YtnelghpendfdmaaGreatDoorW.PrintMore
open Go.Proofs.YtnelghpendfdmaaGreatDoor.HFun
set_option linter.unusedVariables false
set_option linter.unusedSimpArgs false
def insC (s x o d i n : Int) : Array Value :=#[.int .i64 s,.int .i64 x,.int .i64 o,.int .i64 d,.int .i64 i,.int .i64 n]
theorem zbc (s x o d i n : Int) : (insC s x o d i n).all (·.oneCell') = true :=by
  unfold insC
  simp [Value.oneCell']
theorem zca : (Tryz.prog.info? 28).map (·.size) = some 6 :=by kernel_rfl
theorem ld28 (g : Nat) (s x o d i n : Int) (W : World) (h : W.rangeAt g 0 (insC s x o d i n).toList) : (Instr.loadAt 28 (.pointer (some ⟨g,0,none⟩))).run Tryz.prog W = .ok (.agg (insC s x o d i n)) W :=run_loadAt_mid (P :=Tryz.prog) W g 0 28 (insC s x o d i n).toList _ h Tryz.underlying28 rfl zca
def mapW (V : World) (r : Nat) (o : Obj) : World :={ V with heap :=V.heap.setIfInBounds r o }
theorem kp_mapW (V : World) (r : Nat) (o : Obj) : Kp r V (mapW V r o) :=⟨rfl,rfl,rfl,by simp [mapW],fun k _ hn => by simp [mapW,Ne.symm hn]⟩
structure MapE (w0 V : World) (bs : List (Nat × Array Value)) (r : Nat) (es : Array MapEntry) (clock : Nat) : Prop where
  env : Env w0 V bs
  le : w0.heap.size ≤ r
  ne : ∀ (j g : Nat) (cs : Array Value),bs[j]? = some (g,cs) → g ≠ r
  at_ : V.heap[r]? = some (.map es clock)
section
variable {w0 V V' : World} {bs : List (Nat × Array Value)} {ops : Array Oper} {rest : List Oper} {op : Oper} {a : Act} {Q : Exit → Act → World → Prop} {r c : Nat} {es : Array MapEntry}
theorem MapE.mk0 (h : Env w0 V bs) : MapE w0 (V.alloc (.map #[] 0)) bs V.heap.size #[] 0 :=
  ⟨h.under (below_alloc (Below.refl _ _) _),h.size,fun j g cs hj he => by have :=h.lt hj;omega,heap_alloc_new _ _⟩
theorem Env.kpw (h : Env w0 V bs) (hk : Kp r V V') (hle : w0.heap.size ≤ r) (hne : ∀ (j g : Nat) (cs : Array Value),bs[j]? = some (g,cs) → g ≠ r) : Env w0 V' bs :=
  ⟨h.b.trans (hk.below h.size hle),fun j g cs hj => ⟨(h.at_ j g cs hj).1,(h.at_ j g cs hj).2.kp hk (hne j g cs hj)⟩,h.ne⟩
theorem MapE.ins (h : MapE w0 V bs r es c) (es' : Array MapEntry) (c' : Nat) : MapE w0 (mapW V r (.map es' c')) bs r es' c' :=
  ⟨h.env.kpw (kp_mapW _ _ _) h.le h.ne,h.le,h.ne,by
    have hlt : r < V.heap.size :=(Array.getElem?_eq_some_iff.1 h.at_).1
    simp [mapW,hlt]⟩
theorem zbr (h : Env w0 V bs) (hgd : op.guard = none) (ho : op.op = .makeMap 73 none)
    (k : ∀ V' r,MapE w0 V' bs r #[] 0 → wpList Tryz.prog ops Q rest (a.put op.dst (.map (some r))) V') : wpList Tryz.prog ops Q (op :: rest) a V :=by
  refine wpList_plain hgd fun _ hK => ?_
  unfold Oper.wp
  have hrun : (execOp a.eval op).run Tryz.prog V = .ok (.value (.map (some V.heap.size))) (V.alloc (.map #[] 0)) :=by
    unfold execOp
    simp only [ho]
    rfl
  simp only [hrun]
  exact hK _ _ (k _ _ (MapE.mk0 h))
theorem wpList_insMap (h : MapE w0 V bs r es c) (hgd : op.guard = none) (x y z : Operand) (ho : op.op = .insert 73 x y z) (kk v : Int) (hx : a.eval x = .map (some r)) (hy : a.eval y = .int .u8 kk) (hz : a.eval z = .int .i64 v)
    (hf : Instr.findNow (.int .u8) (.int .u8 kk) es.toList 0 = some none)
    (k : ∀ V',MapE w0 V' bs r (es.push { key :=.int .u8 kk,val :=.int .i64 v,born :=c }) (c + 1) → wpList Tryz.prog ops Q rest (a.put op.dst undef) V') : wpList Tryz.prog ops Q (op :: rest) a V :=by
  refine wpList_plain hgd fun _ hK => ?_
  unfold Oper.wp
  have hrun : (Instr.mapUpdate 73 (.map (some r)) (.int .u8 kk) (.int .i64 v)).run Tryz.prog V = .ok () (mapW V r (.map (es.push { key :=.int .u8 kk,val :=.int .i64 v,born :=c }) (c + 1))) :=by
    simp [Instr.mapUpdate,run_underlying Tryz.underlying73,MapKept.run_getObj_map h.at_,MapKept.run_checkKey (k :=.int .u8 kk) Tryz.underlying5 (by simp [MapKept.IsKey]),MapKept.run_findKey Tryz.underlying5 hf,MapKept.run_setObj_map _ h.at_,Result.andThen,mapW]
  have hrun2 : (execOp a.eval op).run Tryz.prog V = .ok .skip (mapW V r (.map (es.push { key :=.int .u8 kk,val :=.int .i64 v,born :=c }) (c + 1))) :=by
    unfold execOp
    simp only [ho,hx,hy,hz]
    simp [hrun,Result.andThen]
  simp only [hrun2]
  exact hK _ _ (k _ (h.ins _ _))
def me1 : Array MapEntry :=#[{ key :=.int .u8 203,val :=.int .i64 1,born :=0 }]
def me2 : Array MapEntry :=#[{ key :=.int .u8 203,val :=.int .i64 1,born :=0 },{ key :=.int .u8 237,val :=.int .i64 2,born :=1 }]
theorem zbw (h : MapE w0 V bs r #[] 0) (hgd : op.guard = none) (x y z : Operand) (ho : op.op = .insert 73 x y z) (hx : a.eval x = .map (some r)) (hy : a.eval y = .int .u8 203) (hz : a.eval z = .int .i64 1)
    (k : ∀ V',MapE w0 V' bs r me1 1 → wpList Tryz.prog ops Q rest (a.put op.dst undef) V') : wpList Tryz.prog ops Q (op :: rest) a V :=
  wpList_insMap h hgd x y z ho 203 1 hx hy hz rfl (fun V' h' => k V' h')
theorem zbv (h : MapE w0 V bs r me1 1) (hgd : op.guard = none) (x y z : Operand) (ho : op.op = .insert 73 x y z) (hx : a.eval x = .map (some r)) (hy : a.eval y = .int .u8 237) (hz : a.eval z = .int .i64 2)
    (k : ∀ V',MapE w0 V' bs r me2 2 → wpList Tryz.prog ops Q rest (a.put op.dst undef) V') : wpList Tryz.prog ops Q (op :: rest) a V :=
  wpList_insMap h hgd x y z ho 237 2 hx hy hz rfl (fun V' h' => k V' h')
theorem look9 (b : Int) : Instr.findNow (.int .u8) (.int .u8 b) me2.toList 0 = some (if b = 203 then some (0,.int .i64 1) else if b = 237 then some (1,.int .i64 2) else none) :=by
  by_cases h1 : b = 203
  · subst h1;rfl
  · by_cases h2 : b = 237
    · subst h2;rfl
    · have e1 : (b == 203) = false :=beq_eq_false_iff_ne.2 h1
      have e2 : (b == 237) = false :=beq_eq_false_iff_ne.2 h2
      simp [me2,Instr.findNow,Instr.sameNow,e1,e2,h1,h2]
theorem zero3 (V : World) : (zeroValue 3).run Tryz.prog V = .ok (.int .i64 0) V :=by
  have : ∃ i,Tryz.prog.info? 3 = some i ∧ i.zero = some (.int .i64 0) :=by
    have h : (Tryz.prog.info? 3).map (·.zero) = some (some (.int .i64 0)) :=by kernel_rfl
    cases hi : Tryz.prog.info? 3 with
    | none => rw [hi] at h;cases h
    | some i => rw [hi] at h;exact ⟨i,rfl,by simpa using h⟩
  obtain ⟨i,h1,h2⟩ :=this
  simp [zeroValue,typeInfo,h1,h2]
theorem zbi (h : MapE w0 V bs r me2 2) (hgd : op.guard = none) (x y : Operand) (ho : op.op = .lookup 73 x y false) (b v : Int) (hx : a.eval x = .map (some r)) (hy : a.eval y = .int .u8 b)
    (hv : (if b = 203 then 1 else if b = 237 then 2 else 0) = v)
    (k : wpList Tryz.prog ops Q rest (a.put op.dst (.int .i64 v)) V) : wpList Tryz.prog ops Q (op :: rest) a V :=by
  refine wpList_plain hgd fun _ hK => ?_
  unfold Oper.wp
  have hf :=look9 b
  have hrun : (Instr.lookup 73 (.map (some r)) (.int .u8 b) false).run Tryz.prog V = .ok (.int .i64 v) V :=by
    by_cases h1 : b = 203
    · rw [if_pos h1] at hf hv
      subst hv
      simp [Instr.lookup,run_underlying Tryz.underlying73,MapKept.run_getObj_map h.at_,MapKept.run_checkKey (k :=.int .u8 b) Tryz.underlying5 (by simp [MapKept.IsKey]),MapKept.run_findKey Tryz.underlying5 hf,Result.andThen]
    · rw [if_neg h1] at hf hv
      by_cases h2 : b = 237
      · rw [if_pos h2] at hf hv
        subst hv
        simp [Instr.lookup,run_underlying Tryz.underlying73,MapKept.run_getObj_map h.at_,MapKept.run_checkKey (k :=.int .u8 b) Tryz.underlying5 (by simp [MapKept.IsKey]),MapKept.run_findKey Tryz.underlying5 hf,Result.andThen]
      · rw [if_neg h2] at hf hv
        subst hv
        simp [Instr.lookup,run_underlying Tryz.underlying73,MapKept.run_getObj_map h.at_,MapKept.run_checkKey (k :=.int .u8 b) Tryz.underlying5 (by simp [MapKept.IsKey]),MapKept.run_findKey Tryz.underlying5 hf,Result.andThen,zero3]
  have hrun2 : (execOp a.eval op).run Tryz.prog V = .ok (.value (.int .i64 v)) V :=by
    unfold execOp
    simp only [ho,hx,hy]
    simp [hrun,Result.andThen]
  simp only [hrun2]
  exact hK _ _ k
theorem zag (h : Env w0 V bs) (hgd : op.guard = none) (i : Nat) {g : Nat} {cs : Array Value} (hi : bs[i]? = some (g,cs)) (x : Operand) (ho : op.op = .load 3 x) (k0 : Nat) (v : Int) (hx : a.eval x = .pointer (some ⟨g,k0,none⟩)) (hv : cs.toList[k0]? = some (.int .i64 v)) (k : wpList Tryz.prog ops Q rest (a.put op.dst (.int .i64 v)) V) : wpList Tryz.prog ops Q (op :: rest) a V :=by
  refine wpList_plain hgd fun _ hK => ?_
  have hc :=(h.at_ i g cs hi).2.cell k0 _ hv
  have hrun : (execOp a.eval op).run Tryz.prog V = .ok (.value (.int .i64 v)) V :=by
    unfold execOp
    simp only [ho,hx]
    simp [go_sem,hc]
  unfold Oper.wp
  simp only [hrun]
  exact hK _ _ k
end
theorem gate_mkMap (ty : TypeId) {P : Program} {ops : Array Oper} {Q : Exit → Act → World → Prop} {W : World} {rest : List Oper} {d x t p af gd a} (h : wpList P ops Q ({ dst :=d,op :=.makeMap ty x,type :=t,pos :=p,after :=af,guard :=gd } :: rest) a W) : wpList P ops Q ({ dst :=d,op :=.makeMap ty x,type :=t,pos :=p,after :=af,guard :=gd } :: rest) a W :=h
theorem gate_insMap (ty : TypeId) {P : Program} {ops : Array Oper} {Q : Exit → Act → World → Prop} {W : World} {rest : List Oper} {d x y z t p af gd a} (h : wpList P ops Q ({ dst :=d,op :=.insert ty x y z,type :=t,pos :=p,after :=af,guard :=gd } :: rest) a W) : wpList P ops Q ({ dst :=d,op :=.insert ty x y z,type :=t,pos :=p,after :=af,guard :=gd } :: rest) a W :=h
theorem gate_lookMap (ty : TypeId) {P : Program} {ops : Array Oper} {Q : Exit → Act → World → Prop} {W : World} {rest : List Oper} {d x y z t p af gd a} (h : wpList P ops Q ({ dst :=d,op :=.lookup ty x y z,type :=t,pos :=p,after :=af,guard :=gd } :: rest) a W) : wpList P ops Q ({ dst :=d,op :=.lookup ty x y z,type :=t,pos :=p,after :=af,guard :=gd } :: rest) a W :=h
theorem Env.none {w0 V : World} {bs : List (Nat × Array Value)} (h : Env w0 V bs) : Env w0 V [] :=⟨h.b,fun j g cs hj => by simp at hj,fun i j g c c' hi _ => by simp at hi⟩
theorem zai {w V : World} (h : Drawn0 w V) : Below w.heap.size w V :=by
  obtain ⟨n,rfl⟩ :=h.out
  exact pw_below_drewN (Below.refl _ _) n
def ofR (s x o d i n e : Int) : Value :=.tuple #[.agg (insC s x o d i n),.int .i64 e]
theorem of_H {W : World} {ad : Addr} {m cp : Nat} {o : Int} {r : Value} (hc0 : ∀ V,Below W.heap.size W V → V.cell? ad = some (.int .u8 o)) (hp0 : yct.f o = some false) (hk : (if o = 203 then (1 : Int) else if o = 237 then 2 else 0) = 0) (ow : wrap64 o = o) (hm : 0 < m) (hcp : m ≤ cp) (hcase : (∃ L : Int,(True) ∧ (ych.f 20 0 0 o = some L) ∧ (decide ((m : Int) < L) = true) ∧ r = ofR 0 0 0 0 0 0 5) ∨
    ((ych.f 20 0 0 o = some 1) ∧ (yce.f 20 0 0 o = some (false,0)) ∧ (decide ((m : Int) < 1) = false) ∧ ((cp = 1) = True) ∧ r = ofR 0 0 o 0 0 1 0) ∨
    ((ych.f 20 0 0 o = some 1) ∧ (yce.f 20 0 0 o = some (false,0)) ∧ (decide ((m : Int) < 1) = false) ∧ ((cp = 1) = False) ∧ r = ofR 0 0 o 0 0 1 0) ∨
    (∃ y : Int,(ych.f 20 0 0 o = some 2) ∧ (yce.f 20 0 0 o = some (false,1)) ∧ (decide ((m : Int) < 2) = false) ∧ (True) ∧ (∀ V,Below W.heap.size W V → V.cell? ⟨ad.block,ad.off + 1,none⟩ = some (.int .u8 y)) ∧ (wrap64 y = y) ∧ (ycp.f o = some false) ∧ ((cp = 1) = False) ∧ (cp ≠ 1) ∧ (0 < m - 1) ∧ (1 ≤ m - 1) ∧ r = ofR 0 0 o 0 y 2 0) ∨
    (∃ y iv : Int,(ych.f 20 0 0 o = some 2) ∧ (yce.f 20 0 0 o = some (false,1)) ∧ (decide ((m : Int) < 2) = false) ∧ (True) ∧ (∀ V,Below W.heap.size W V → V.cell? ⟨ad.block,ad.off + 1,none⟩ = some (.int .u8 y)) ∧ (wrap64 y = y) ∧ (ycp.f o = some true) ∧ (ydb.f y = some iv) ∧ ((cp = 1) = False) ∧ (cp ≠ 1) ∧ (0 < m - 1) ∧ (1 ≤ m - 1) ∧ r = ofR 0 0 o 0 iv 2 0) ∨
    (∃ y z : Int,(ych.f 20 0 0 o = some 3) ∧ (yce.f 20 0 0 o = some (false,2)) ∧ (decide ((m : Int) < 3) = false) ∧ (True) ∧ (∀ V,Below W.heap.size W V → V.cell? ⟨ad.block,ad.off + 1,none⟩ = some (.int .u8 y)) ∧ (∀ V,Below W.heap.size W V → V.cell? ⟨ad.block,ad.off + 2,none⟩ = some (.int .u8 z)) ∧ (wrap64 y = y) ∧ (wrap64 z = z) ∧ (wrap64 (256 * z) = 256 * z) ∧ (wrap64 (y + 256 * z) = y + 256 * z) ∧ (1 < m - 1) ∧ ((cp = 1) = False) ∧ (cp ≠ 1) ∧ (0 < m - 1) ∧ (1 ≤ m - 1) ∧ r = ofR 0 0 o 0 (y + 256 * z) 3 0)) :
    Calls Tryz.prog 11 #[.slice (some ad) m cp] W fun e V => e = .returned r ∧ Below W.heap.size W V :=by
  have hE :=Aside0.mk (Env.nil W)
  replace hc0 :=Aside0.mk hc0
  replace hp0 :=Aside0.mk hp0
  replace hk :=Aside0.mk hk
  have em0 : ((m : Int) == 0) = false :=by simp;omega
  have g0 : 0 < m :=by omega
  have fa : decide ((m : Int) ≤ 0) = false :=by exact decide_eq_false (by omega)
  replace hm :=Aside0.mk hm
  replace hcp :=Aside0.mk hcp
  go_enter Tryz.func11,Tryz.ntmps11
  go_upto_region 23 with (first | ((with_reducible refine gate_alloc 28 ?_);refine zab hE.out rfl (insC 0 0 0 0 0 0) 28 (by kernel_rfl) ?_;intro V g hE';replace hE :=Aside0.mk hE';clear hE') | ((with_reducible refine gate_load 5 ?_);(try refine gate_guard (by rfl) ?_);first | refine zam rfl _ rfl rfl (hc0.out _ hE.out.b) ?_ | refine zam rfl _ rfl rfl (hc0.out _ hE.out.env.b) ?_) | ((with_reducible refine gate_mkMap 73 ?_);refine zbr hE.out rfl rfl ?_;intro V r0 hE';replace hE :=Aside0.mk hE';clear hE') | ((with_reducible refine gate_insMap 73 ?_);first | (refine zbw hE.out rfl _ _ _ rfl rfl rfl rfl ?_;intro V hE';replace hE :=Aside0.mk hE';clear hE') | (refine zbv hE.out rfl _ _ _ rfl rfl rfl rfl ?_;intro V hE';replace hE :=Aside0.mk hE';clear hE')) | ((with_reducible refine gate_lookMap 73 ?_);refine zbi hE.out rfl _ _ rfl (o) 0 rfl rfl hk.out ?_;replace hE :=Aside0.mk hE.out.env) | (go_at_call 36;refine (yct.calls o false _ hp0.out).mono ?_;rintro e V3 ⟨rfl,hd5⟩;replace hE :=Aside0.mk (hE.out.under (zai hd5));clear hd5))
  go_upto_region 24 with (first | ((with_reducible refine gate_region 23 ?_);((refine zak (fun V => Env W V []) [(0,0),(1,0),(2,0),(3,0),(6,0),(4,1),(5,0),(7,2)] [8,9] [8,9] 10 (by kernel_rfl) rfl rfl (by kernel_rfl) (by intro c a d v w h;cases d <;> exact h) ((hE.out.drewN 1).none) ?_);replace hE :=Aside0.mk (hE.out.drewN 1);have hS0 :=hE.out.none;(repeat (refine Sch.pureN (v :=?_) (a' :=?_) rfl rfl (by rfl) ?_ ?_ ?_;rotate_left 2;(· (intro w';go_simp <;> (repeat (fail)) <;> with_reducible rfl));(· (simp only [aput] <;> rfl))));(refine Sch.takeN (v :=?_) (a' :=?_) rfl rfl (by rfl) hS0 ?_ ?_ ?_;rotate_left 2;(· (intro w' hS';have qq :=hc0.out _ hS'.b;go_simp <;> with_reducible rfl));(· (simp only [aput] <;> rfl)));(repeat (refine Sch.pureN (v :=?_) (a' :=?_) rfl rfl (by rfl) ?_ ?_ ?_;rotate_left 2;(· (intro w';go_simp <;> (repeat (fail)) <;> with_reducible rfl));(· (simp only [aput] <;> rfl))));(refine Sch.st1 hE.out 0 rfl rfl rfl (by rfl) 3 _ _ rfl _ _ rfl rfl (by kernel_rfl) rfl rfl (by simp [insC]) ?_;intro V hE';replace hE :=Aside0.mk hE';clear hE';refine ⟨hE.out.none,?_⟩);(refine Sch.tail 8 2 rfl rfl ?_;simp only [List.drop_succ_cons,List.drop_zero,List.drop_nil]))) | ((with_reducible refine gate_store 3 ?_);refine zau hE.out rfl 0 rfl 3 _ _ rfl _ _ rfl rfl (by kernel_rfl) rfl rfl (by simp [insC]) ?_;intro V hE';(try dsimp only [List.set_cons_zero,List.set_cons_succ] at hE');replace hE :=Aside0.mk hE';clear hE'))
  replace hE : Aside0 (Env W _ [(_,insC 0 0 (wrap64 o) 0 0 0),(_,insC 0 0 0 0 0 0)]) :=⟨hE.out⟩
  rw [ow] at hE
  rcases hcase with ⟨L,sh,hL,hs,rfl⟩ | ⟨hL,hN,fL,cq,rfl⟩ | ⟨hL,hN,fL,cq,rfl⟩ | ⟨y,hL,hN,fL,one,hc1,yw,hR,cq,nq,k0,k1,rfl⟩ | ⟨y,iv,hL,hN,fL,one,hc1,yw,hR,hI,cq,nq,k0,k1,rfl⟩ | ⟨y,z,hL,hN,fL,dbl,hc1,hc2,yw,zw,zm,za,k2,cq,nq,k0,k1,rfl⟩
  all_goals (
   (try replace hL :=Aside0.mk hL)
   (try replace hN :=Aside0.mk hN)
   (try replace hD :=Aside0.mk hD)
   (try replace hR :=Aside0.mk hR)
   (try replace hI :=Aside0.mk hI)
   (try replace hc1 :=Aside0.mk hc1)
   (try replace hc2 :=Aside0.mk hc2)
   (try replace hc3 :=Aside0.mk hc3)
   go_upto_region 25 with (first | ((with_reducible refine gate_load 3 ?_);(try refine gate_guard (by rfl) ?_);(refine zag hE.out rfl 0 rfl _ rfl _ _ rfl rfl ?_)) | ((with_reducible refine gate_store 3 ?_);refine zau hE.out rfl 0 rfl 3 _ _ rfl _ _ rfl rfl (by kernel_rfl) rfl rfl (by simp [insC]) ?_;intro V hE';(try dsimp only [List.set_cons_zero,List.set_cons_succ] at hE');replace hE :=Aside0.mk hE';clear hE') | (go_at_call 38;refine (ych.calls 20 _ _ o _ _ hL.out).mono ?_;rintro e V3 ⟨rfl,hd5⟩;replace hE :=Aside0.mk (hE.out.under (zai hd5));clear hd5))
   replace hE : Aside0 (Env W _ [(_,insC 0 0 o 0 0 _),(_,insC 0 0 0 0 0 0)]) :=⟨hE.out⟩
   first
    | (have h9 :=sh
       go_wp2_with (first | ((with_reducible refine gate_load 3 ?_);(try refine gate_guard (by rfl) ?_);(refine zag hE.out rfl 0 rfl _ rfl _ _ rfl rfl ?_)) | ((with_reducible refine gate_bld 28 ?_);(try refine gate_guard (by rfl) ?_);refine zao rfl rfl (.agg (insC 0 0 0 0 0 0)) (by kernel_rfl) ?_) | ((with_reducible refine gate_store 28 ?_);refine zac hE.out rfl 1 rfl 28 _ _ rfl _ rfl rfl rfl (by kernel_rfl) (zbc _ _ _ _ _ _) ?_;intro V hE';(try dsimp only [List.set_cons_zero,List.set_cons_succ] at hE');replace hE :=Aside0.mk hE';clear hE'))
       have r1 :=run_loadVar_mid (P :=Tryz.prog) _ _ 0 28 (insC 0 0 0 0 0 0).toList _ (hE.out.at_ 1 _ _ rfl).2.range Tryz.underlying28 rfl zca
       refine bodyPost_ret (v :=.tuple #[.agg (insC 0 0 0 0 0 0),.int .i64 5]) ?_ rfl ⟨rfl,hE.out.b⟩
       simp [results,Tryz.results11,asAddr,r1,Act.put])
    | (go_upto_region 29 with (first | ((with_reducible refine gate_load 3 ?_);(try refine gate_guard (by rfl) ?_);(refine zag hE.out rfl 0 rfl _ rfl _ _ rfl rfl ?_)) | (go_at_call 39;refine (yce.calls 20 _ _ o _ _ _ hN.out).mono ?_;rintro e V3 ⟨rfl,hd5⟩;replace hE :=Aside0.mk (hE.out.under (zai hd5));clear hd5))
       first
        | (have h9 :=one
           go_upto_region 33 with (first | ((with_reducible refine gate_load 5 ?_);(try refine gate_guard (by rfl) ?_);refine zam rfl _ rfl rfl (hc1.out _ hE.out.b) ?_) | ((with_reducible refine gate_store 3 ?_);refine zau hE.out rfl 0 rfl 3 _ _ rfl _ _ rfl rfl (by kernel_rfl) rfl rfl (by simp [insC]) ?_;intro V hE';(try dsimp only [List.set_cons_zero,List.set_cons_succ] at hE');replace hE :=Aside0.mk hE';clear hE'))
           replace hE : Aside0 (Env W _ [(_,insC 0 0 o _ (wrap64 y) _),(_,insC 0 0 0 0 0 0)]) :=⟨hE.out⟩
           rw [yw] at hE
           go_upto_region 35 with (first | ((with_reducible refine gate_load 3 ?_);(try refine gate_guard (by rfl) ?_);(refine zag hE.out rfl 0 rfl _ rfl _ _ rfl rfl ?_)) | ((with_reducible refine gate_load 5 ?_);(try refine gate_guard (by rfl) ?_);refine zam rfl _ rfl rfl (hc1.out _ hE.out.b) ?_) | ((with_reducible refine gate_store 3 ?_);refine zau hE.out rfl 0 rfl 3 _ _ rfl _ _ rfl rfl (by kernel_rfl) rfl rfl (by simp [insC]) ?_;intro V hE';(try dsimp only [List.set_cons_zero,List.set_cons_succ] at hE');replace hE :=Aside0.mk hE';clear hE') | (go_at_call 40;(try refine gate_guard (by rfl) ?_);refine (ycp.calls o _ _ hR.out).mono ?_;rintro e V3 ⟨rfl,hd5⟩;replace hE :=Aside0.mk (hE.out.under (zai hd5));clear hd5) | (go_at_call 37;refine (ydb.calls y iv _ hI.out).mono ?_;rintro e V3 ⟨rfl,hd5⟩;replace hE :=Aside0.mk (hE.out.under (zai hd5));clear hd5))
           (try replace hE : Aside0 (Env W _ [(_,insC 0 0 o _ iv _),(_,insC 0 0 0 0 0 0)]) :=⟨hE.out⟩))
        | go_upto_region 35 with fail
       first
        | (have h9 :=dbl
           go_upto_region 37 with (first | ((with_reducible refine gate_region 36 ?_);((refine zak (fun V => Env W V []) [(0,0),(1,0),(4,0),(5,0),(2,1),(3,0),(6,1),(7,0),(8,0)] [9,10,11] [9,10,11] 12 (by kernel_rfl) rfl rfl (by kernel_rfl) (by intro c a d v w h;cases d <;> exact h) ((hE.out.drewN 1).none) ?_);replace hE :=Aside0.mk (hE.out.drewN 1);have hS0 :=hE.out.none;(repeat (refine Sch.pureN (v :=?_) (a' :=?_) rfl rfl (by rfl) ?_ ?_ ?_;rotate_left 2;(· (intro w';go_simp <;> (repeat (rw [if_pos (by omega)])) <;> with_reducible rfl));(· (simp only [aput] <;> rfl))));(refine Sch.takeN (v :=?_) (a' :=?_) rfl rfl (by rfl) hS0 ?_ ?_ ?_;rotate_left 2;(· (intro w' hS';have qq :=hc1.out _ hS'.b;go_simp <;> with_reducible rfl));(· (simp only [aput] <;> rfl)));(repeat (refine Sch.pureN (v :=?_) (a' :=?_) rfl rfl (by rfl) ?_ ?_ ?_;rotate_left 2;(· (intro w';go_simp <;> (repeat (fail)) <;> with_reducible rfl));(· (simp only [aput] <;> rfl))));(refine Sch.takeN (v :=?_) (a' :=?_) rfl rfl (by rfl) hS0 ?_ ?_ ?_;rotate_left 2;(· (intro w' hS';have qq :=hc2.out _ hS'.b;go_simp <;> with_reducible rfl));(· (simp only [aput] <;> rfl)));(repeat (refine Sch.pureN (v :=?_) (a' :=?_) rfl rfl (by rfl) ?_ ?_ ?_;rotate_left 2;(· (intro w';go_simp <;> (repeat (fail)) <;> with_reducible rfl));(· (simp only [aput] <;> rfl))));(refine Sch.tail 9 3 rfl rfl ?_;simp only [List.drop_succ_cons,List.drop_zero,List.drop_nil]))) | ((with_reducible refine gate_store 3 ?_);refine zau hE.out rfl 0 rfl 3 _ _ rfl _ _ rfl rfl (by kernel_rfl) rfl rfl (by simp [insC]) ?_;intro V hE';(try dsimp only [List.set_cons_zero,List.set_cons_succ] at hE');replace hE :=Aside0.mk hE';clear hE'))
           replace hE : Aside0 (Env W _ [(_,insC 0 0 o _ (wrap64 (y + 256 * z)) _),(_,insC 0 0 0 0 0 0)]) :=⟨hE.out⟩
           rw [za] at hE)
        | go_upto_region 37 with fail
       go_wp2_with (first | ((with_reducible refine gate_load 28 ?_);refine zaf hE.out rfl 0 rfl 28 _ rfl rfl (ld28 _ _ _ _ _ _ _) ?_) | ((with_reducible refine gate_store 28 ?_);refine zac hE.out rfl 1 rfl 28 _ _ rfl _ rfl rfl rfl (by kernel_rfl) (zbc _ _ _ _ _ _) ?_;intro V hE';(try dsimp only [List.set_cons_zero,List.set_cons_succ] at hE');replace hE :=Aside0.mk hE';clear hE'))
       have r1 :=run_loadVar_mid (P :=Tryz.prog) _ _ 0 28 (insC 0 0 o _ _ _).toList _ (hE.out.at_ 1 _ _ rfl).2.range Tryz.underlying28 rfl zca
       refine bodyPost_ret (v :=.tuple #[.agg (insC 0 0 o _ _ _),.int .i64 0]) ?_ rfl ⟨rfl,hE.out.b⟩
       simp [results,Tryz.results11,asAddr,r1,Act.put]))
theorem of_G {W : World} {ad : Addr} {m cp : Nat} {b s o : Int} {r : Value} (hc0 : ∀ V,Below W.heap.size W V → V.cell? ad = some (.int .u8 b)) (hc1 : ∀ V,Below W.heap.size W V → V.cell? ⟨ad.block,ad.off + 1,none⟩ = some (.int .u8 o)) (hx : (b = 203 ∧ s = 1) ∨ (b = 237 ∧ s = 2)) (ow : wrap64 o = o) (hm : 1 < m) (hcp : m ≤ cp) (hcase : (∃ L : Int,(True) ∧ (ych.f 20 s 0 o = some L) ∧ (decide ((m : Int) < L) = true) ∧ r = ofR 0 0 0 0 0 0 5) ∨
    ((ych.f 20 s 0 o = some 2) ∧ (yce.f 20 s 0 o = some (false,0)) ∧ (decide ((m : Int) < 2) = false) ∧ ((cp = 2) = True) ∧ r = ofR s 0 o 0 0 2 0) ∨
    ((ych.f 20 s 0 o = some 2) ∧ (yce.f 20 s 0 o = some (false,0)) ∧ (decide ((m : Int) < 2) = false) ∧ ((cp = 2) = False) ∧ r = ofR s 0 o 0 0 2 0) ∨
    (∃ y z : Int,(ych.f 20 s 0 o = some 4) ∧ (yce.f 20 s 0 o = some (false,2)) ∧ (decide ((m : Int) < 4) = false) ∧ (True) ∧ (∀ V,Below W.heap.size W V → V.cell? ⟨ad.block,ad.off + 2,none⟩ = some (.int .u8 y)) ∧ (∀ V,Below W.heap.size W V → V.cell? ⟨ad.block,ad.off + 3,none⟩ = some (.int .u8 z)) ∧ (wrap64 y = y) ∧ (wrap64 z = z) ∧ (wrap64 (256 * z) = 256 * z) ∧ (wrap64 (y + 256 * z) = y + 256 * z) ∧ (1 < m - 2) ∧ ((cp = 2) = False) ∧ (cp ≠ 2) ∧ (0 < m - 2) ∧ (1 ≤ m - 2) ∧ r = ofR s 0 o 0 (y + 256 * z) 4 0)) :
    Calls Tryz.prog 11 #[.slice (some ad) m cp] W fun e V => e = .returned r ∧ Below W.heap.size W V :=by
  have hE :=Aside0.mk (Env.nil W)
  replace hc0 :=Aside0.mk hc0
  replace hc1 :=Aside0.mk hc1
  have em0 : ((m : Int) == 0) = false :=by simp;omega
  have g0 : 0 < m :=by omega
  have g1 : 1 < m :=by omega
  have fa : decide ((m : Int) ≤ 1) = false :=by exact decide_eq_false (by omega)
  replace hm :=Aside0.mk hm
  replace hcp :=Aside0.mk hcp
  rcases hx with ⟨rfl,rfl⟩ | ⟨rfl,rfl⟩
  all_goals (
   go_enter Tryz.func11,Tryz.ntmps11
   go_upto_region 23 with (first | ((with_reducible refine gate_alloc 28 ?_);refine zab hE.out rfl (insC 0 0 0 0 0 0) 28 (by kernel_rfl) ?_;intro V g hE';replace hE :=Aside0.mk hE';clear hE') | ((with_reducible refine gate_load 5 ?_);(try refine gate_guard (by rfl) ?_);first | refine zam rfl _ rfl rfl (hc0.out _ hE.out.b) ?_ | refine zam rfl _ rfl rfl (hc0.out _ hE.out.env.b) ?_) | ((with_reducible refine gate_mkMap 73 ?_);refine zbr hE.out rfl rfl ?_;intro V r0 hE';replace hE :=Aside0.mk hE';clear hE') | ((with_reducible refine gate_insMap 73 ?_);first | (refine zbw hE.out rfl _ _ _ rfl rfl rfl rfl ?_;intro V hE';replace hE :=Aside0.mk hE';clear hE') | (refine zbv hE.out rfl _ _ _ rfl rfl rfl rfl ?_;intro V hE';replace hE :=Aside0.mk hE';clear hE')) | ((with_reducible refine gate_load 3 ?_);(try refine gate_guard (by rfl) ?_);(refine zag hE.out rfl 0 rfl _ rfl _ _ rfl rfl ?_)) | (first | ((with_reducible refine gate_lookMap 73 ?_);refine zbi hE.out rfl _ _ rfl (203) 1 rfl rfl (by decide) ?_;replace hE :=Aside0.mk hE.out.env) | ((with_reducible refine gate_lookMap 73 ?_);refine zbi hE.out rfl _ _ rfl (237) 2 rfl rfl (by decide) ?_;replace hE :=Aside0.mk hE.out.env)) | (go_at_call 36;refine (yct.calls _ false _ (by decide)).mono ?_;rintro e V3 ⟨rfl,hd5⟩;replace hE :=Aside0.mk (hE.out.under (zai hd5));clear hd5))
   go_upto_region 24 with (first | ((with_reducible refine gate_region 23 ?_);((refine zak (fun V => Env W V []) [(0,0),(1,0),(2,0),(3,0),(6,0),(4,1),(5,0),(7,2)] [8,9] [8,9] 10 (by kernel_rfl) rfl rfl (by kernel_rfl) (by intro c a d v w h;cases d <;> exact h) ((hE.out.drewN 1).none) ?_);replace hE :=Aside0.mk (hE.out.drewN 1);have hS0 :=hE.out.none;(repeat (refine Sch.pureN (v :=?_) (a' :=?_) rfl rfl (by rfl) ?_ ?_ ?_;rotate_left 2;(· (intro w';go_simp <;> (repeat (rw [if_pos (by omega)])) <;> with_reducible rfl));(· (simp only [aput] <;> rfl))));(refine Sch.takeN (v :=?_) (a' :=?_) rfl rfl (by rfl) hS0 ?_ ?_ ?_;rotate_left 2;(· (intro w' hS';have qq :=hc1.out _ hS'.b;go_simp <;> with_reducible rfl));(· (simp only [aput] <;> rfl)));(repeat (refine Sch.pureN (v :=?_) (a' :=?_) rfl rfl (by rfl) ?_ ?_ ?_;rotate_left 2;(· (intro w';go_simp <;> (repeat (fail)) <;> with_reducible rfl));(· (simp only [aput] <;> rfl))));(refine Sch.st1 hE.out 0 rfl rfl rfl (by rfl) 3 _ _ rfl _ _ rfl rfl (by kernel_rfl) rfl rfl (by simp [insC]) ?_;intro V hE';replace hE :=Aside0.mk hE';clear hE';refine ⟨hE.out.none,?_⟩);(refine Sch.tail 8 2 rfl rfl ?_;simp only [List.drop_succ_cons,List.drop_zero,List.drop_nil]))) | ((with_reducible refine gate_store 3 ?_);refine zau hE.out rfl 0 rfl 3 _ _ rfl _ _ rfl rfl (by kernel_rfl) rfl rfl (by simp [insC]) ?_;intro V hE';(try dsimp only [List.set_cons_zero,List.set_cons_succ] at hE');replace hE :=Aside0.mk hE';clear hE'))
   replace hE : Aside0 (Env W _ [(_,insC _ 0 (wrap64 o) 0 0 0),(_,insC 0 0 0 0 0 0)]) :=⟨hE.out⟩
   rw [ow] at hE
   rcases hcase with ⟨L,sh,hL,hs,rfl⟩ | ⟨hL,hN,fL,cq,rfl⟩ | ⟨hL,hN,fL,cq,rfl⟩ | ⟨y,z,hL,hN,fL,dbl,hc2,hc3,yw,zw,zm,za,k2,cq,nq,k0,k1,rfl⟩
   all_goals (
    (try replace hL :=Aside0.mk hL)
    (try replace hN :=Aside0.mk hN)
    (try replace hD :=Aside0.mk hD)
    (try replace hR :=Aside0.mk hR)
    (try replace hI :=Aside0.mk hI)
    (try replace hc2 :=Aside0.mk hc2)
    (try replace hc3 :=Aside0.mk hc3)
    go_upto_region 25 with (first | ((with_reducible refine gate_load 3 ?_);(try refine gate_guard (by rfl) ?_);(refine zag hE.out rfl 0 rfl _ rfl _ _ rfl rfl ?_)) | ((with_reducible refine gate_store 3 ?_);refine zau hE.out rfl 0 rfl 3 _ _ rfl _ _ rfl rfl (by kernel_rfl) rfl rfl (by simp [insC]) ?_;intro V hE';(try dsimp only [List.set_cons_zero,List.set_cons_succ] at hE');replace hE :=Aside0.mk hE';clear hE') | (go_at_call 38;refine (ych.calls 20 _ _ o _ _ hL.out).mono ?_;rintro e V3 ⟨rfl,hd5⟩;replace hE :=Aside0.mk (hE.out.under (zai hd5));clear hd5))
    replace hE : Aside0 (Env W _ [(_,insC _ 0 o 0 0 _),(_,insC 0 0 0 0 0 0)]) :=⟨hE.out⟩
    first
     | (have h9 :=sh
        go_wp2_with (first | ((with_reducible refine gate_load 3 ?_);(try refine gate_guard (by rfl) ?_);(refine zag hE.out rfl 0 rfl _ rfl _ _ rfl rfl ?_)) | ((with_reducible refine gate_bld 28 ?_);(try refine gate_guard (by rfl) ?_);refine zao rfl rfl (.agg (insC 0 0 0 0 0 0)) (by kernel_rfl) ?_) | ((with_reducible refine gate_store 28 ?_);refine zac hE.out rfl 1 rfl 28 _ _ rfl _ rfl rfl rfl (by kernel_rfl) (zbc _ _ _ _ _ _) ?_;intro V hE';(try dsimp only [List.set_cons_zero,List.set_cons_succ] at hE');replace hE :=Aside0.mk hE';clear hE'))
        have r1 :=run_loadVar_mid (P :=Tryz.prog) _ _ 0 28 (insC 0 0 0 0 0 0).toList _ (hE.out.at_ 1 _ _ rfl).2.range Tryz.underlying28 rfl zca
        refine bodyPost_ret (v :=.tuple #[.agg (insC 0 0 0 0 0 0),.int .i64 5]) ?_ rfl ⟨rfl,hE.out.b⟩
        simp [results,Tryz.results11,asAddr,r1,Act.put])
     | (go_upto_region 29 with (first | ((with_reducible refine gate_load 3 ?_);(try refine gate_guard (by rfl) ?_);(refine zag hE.out rfl 0 rfl _ rfl _ _ rfl rfl ?_)) | (go_at_call 39;refine (yce.calls 20 _ _ o _ _ _ hN.out).mono ?_;rintro e V3 ⟨rfl,hd5⟩;replace hE :=Aside0.mk (hE.out.under (zai hd5));clear hd5))
        first
         | (have h9 :=dbl
            go_upto_region 37 with (first | ((with_reducible refine gate_region 36 ?_);((refine zak (fun V => Env W V []) [(0,0),(1,0),(4,0),(5,0),(2,1),(3,0),(6,1),(7,0),(8,0)] [9,10,11] [9,10,11] 12 (by kernel_rfl) rfl rfl (by kernel_rfl) (by intro c a d v w h;cases d <;> exact h) ((hE.out.drewN 1).none) ?_);replace hE :=Aside0.mk (hE.out.drewN 1);have hS0 :=hE.out.none;(repeat (refine Sch.pureN (v :=?_) (a' :=?_) rfl rfl (by rfl) ?_ ?_ ?_;rotate_left 2;(· (intro w';go_simp <;> (repeat (rw [if_pos (by omega)])) <;> with_reducible rfl));(· (simp only [aput] <;> rfl))));(refine Sch.takeN (v :=?_) (a' :=?_) rfl rfl (by rfl) hS0 ?_ ?_ ?_;rotate_left 2;(· (intro w' hS';have qq :=hc2.out _ hS'.b;go_simp <;> with_reducible rfl));(· (simp only [aput] <;> rfl)));(repeat (refine Sch.pureN (v :=?_) (a' :=?_) rfl rfl (by rfl) ?_ ?_ ?_;rotate_left 2;(· (intro w';go_simp <;> (repeat (fail)) <;> with_reducible rfl));(· (simp only [aput] <;> rfl))));(refine Sch.takeN (v :=?_) (a' :=?_) rfl rfl (by rfl) hS0 ?_ ?_ ?_;rotate_left 2;(· (intro w' hS';have qq :=hc3.out _ hS'.b;go_simp <;> with_reducible rfl));(· (simp only [aput] <;> rfl)));(repeat (refine Sch.pureN (v :=?_) (a' :=?_) rfl rfl (by rfl) ?_ ?_ ?_;rotate_left 2;(· (intro w';go_simp <;> (repeat (fail)) <;> with_reducible rfl));(· (simp only [aput] <;> rfl))));(refine Sch.tail 9 3 rfl rfl ?_;simp only [List.drop_succ_cons,List.drop_zero,List.drop_nil]))) | ((with_reducible refine gate_store 3 ?_);refine zau hE.out rfl 0 rfl 3 _ _ rfl _ _ rfl rfl (by kernel_rfl) rfl rfl (by simp [insC]) ?_;intro V hE';(try dsimp only [List.set_cons_zero,List.set_cons_succ] at hE');replace hE :=Aside0.mk hE';clear hE'))
            replace hE : Aside0 (Env W _ [(_,insC _ 0 o _ (wrap64 (y + 256 * z)) _),(_,insC 0 0 0 0 0 0)]) :=⟨hE.out⟩
            rw [za] at hE)
         | go_upto_region 37 with fail
        go_wp2_with (first | ((with_reducible refine gate_load 28 ?_);refine zaf hE.out rfl 0 rfl 28 _ rfl rfl (ld28 _ _ _ _ _ _ _) ?_) | ((with_reducible refine gate_store 28 ?_);refine zac hE.out rfl 1 rfl 28 _ _ rfl _ rfl rfl rfl (by kernel_rfl) (zbc _ _ _ _ _ _) ?_;intro V hE';(try dsimp only [List.set_cons_zero,List.set_cons_succ] at hE');replace hE :=Aside0.mk hE';clear hE'))
        have r1 :=run_loadVar_mid (P :=Tryz.prog) _ _ 0 28 (insC _ 0 o _ _ _).toList _ (hE.out.at_ 1 _ _ rfl).2.range Tryz.underlying28 rfl zca
        refine bodyPost_ret (v :=.tuple #[.agg (insC _ 0 o _ _ _),.int .i64 0]) ?_ rfl ⟨rfl,hE.out.b⟩
        simp [results,Tryz.results11,asAddr,r1,Act.put])))
theorem of_empty {W : World} {A : Option Addr} {cp : Nat} :
    Calls Tryz.prog 11 #[.slice A 0 cp] W fun e V => e = .returned (.tuple #[.agg (insC 0 0 0 0 0 0),.int .i64 5]) ∧ Below W.heap.size W V :=by
  have hE :=Aside0.mk (Env.nil W)
  go_enter Tryz.func11,Tryz.ntmps11
  go_wp2_with (first | ((with_reducible refine gate_alloc 28 ?_);refine zab hE.out rfl (insC 0 0 0 0 0 0) 28 (by kernel_rfl) ?_;intro V g hE';replace hE :=Aside0.mk hE';clear hE') | ((with_reducible refine gate_bld 28 ?_);(try refine gate_guard (by rfl) ?_);refine zao rfl rfl (.agg (insC 0 0 0 0 0 0)) (by kernel_rfl) ?_) | ((with_reducible refine gate_store 28 ?_);refine zac hE.out rfl 0 rfl 28 _ _ rfl _ rfl rfl rfl (by kernel_rfl) (zbc _ _ _ _ _ _) ?_;intro V hE';(try dsimp only [List.set_cons_zero,List.set_cons_succ] at hE');replace hE :=Aside0.mk hE';clear hE'))
  have r1 :=run_loadVar_mid (P :=Tryz.prog) _ _ 0 28 (insC 0 0 0 0 0 0).toList _ (hE.out.at_ 0 _ _ rfl).2.range Tryz.underlying28 rfl zca
  refine bodyPost_ret (v :=.tuple #[.agg (insC 0 0 0 0 0 0),.int .i64 5]) ?_ rfl ⟨rfl,hE.out.b⟩
  simp [results,Tryz.results11,asAddr,r1,Act.put]
theorem of_b1 {W : World} {ad : Addr} {m cp : Nat} (hc0 : ∀ V,Below W.heap.size W V → V.cell? ad = some (.int .u8 (203))) (hm : m = 1) (hcp : m ≤ cp) :
    Calls Tryz.prog 11 #[.slice (some ad) m cp] W fun e V => e = .returned (.tuple #[.agg (insC 0 0 0 0 0 0),.int .i64 5]) ∧ Below W.heap.size W V :=by
  have hE :=Aside0.mk (Env.nil W)
  replace hc0 :=Aside0.mk hc0
  replace hm :=Aside0.mk hm
  replace hcp :=Aside0.mk hcp
  go_enter Tryz.func11,Tryz.ntmps11
  have em0 : ((m : Int) == 0) = false :=by have :=hm.out;have :=hcp.out;simp;omega
  have g0 : 0 < m :=by have :=hm.out;have :=hcp.out;omega
  have f2 : decide ((m : Int) < 2) = true :=by have :=hm.out;have :=hcp.out;exact decide_eq_true (by omega)
  have fa : decide ((m : Int) ≤ 1) = true :=by have :=hm.out;have :=hcp.out;exact decide_eq_true (by omega)
  go_wp2_with (first | ((with_reducible refine gate_alloc 28 ?_);refine zab hE.out rfl (insC 0 0 0 0 0 0) 28 (by kernel_rfl) ?_;intro V g hE';replace hE :=Aside0.mk hE';clear hE') | ((with_reducible refine gate_mkMap 73 ?_);refine zbr hE.out rfl rfl ?_;intro V r0 hE';replace hE :=Aside0.mk hE';clear hE') | ((with_reducible refine gate_insMap 73 ?_);first | (refine zbw hE.out rfl _ _ _ rfl rfl rfl rfl ?_;intro V hE';replace hE :=Aside0.mk hE';clear hE') | (refine zbv hE.out rfl _ _ _ rfl rfl rfl rfl ?_;intro V hE';replace hE :=Aside0.mk hE';clear hE')) | ((with_reducible refine gate_load 3 ?_);(try refine gate_guard (by rfl) ?_);(refine zag hE.out rfl 0 rfl _ rfl _ _ rfl rfl ?_)) | ((with_reducible refine gate_load 5 ?_);(try refine gate_guard (by rfl) ?_);first | refine zam rfl _ rfl rfl (hc0.out _ hE.out.b) ?_ | refine zam rfl _ rfl rfl (hc0.out _ hE.out.env.b) ?_) | (go_at_call 36;refine (yct.calls _ false _ (by decide)).mono ?_;rintro e V3 ⟨rfl,hd5⟩;replace hE :=Aside0.mk (hE.out.under (zai hd5));clear hd5) | ((with_reducible refine gate_lookMap 73 ?_);refine zbi hE.out rfl _ _ rfl (203) 1 rfl rfl (by decide) ?_;replace hE :=Aside0.mk hE.out.env) | ((with_reducible refine gate_bld 28 ?_);(try refine gate_guard (by rfl) ?_);refine zao rfl rfl (.agg (insC 0 0 0 0 0 0)) (by kernel_rfl) ?_) | ((with_reducible refine gate_store 28 ?_);refine zac hE.out rfl 1 rfl 28 _ _ rfl _ rfl rfl rfl (by kernel_rfl) (zbc _ _ _ _ _ _) ?_;intro V hE';(try dsimp only [List.set_cons_zero,List.set_cons_succ] at hE');replace hE :=Aside0.mk hE';clear hE'))
  have r1 :=run_loadVar_mid (P :=Tryz.prog) _ _ 0 28 (insC 0 0 0 0 0 0).toList _ (hE.out.at_ 1 _ _ rfl).2.range Tryz.underlying28 rfl zca
  refine bodyPost_ret (v :=.tuple #[.agg (insC 0 0 0 0 0 0),.int .i64 5]) ?_ rfl ⟨rfl,hE.out.b⟩
  simp [results,Tryz.results11,asAddr,r1,Act.put]
theorem of_m1 {W : World} {ad : Addr} {m cp : Nat} (hc0 : ∀ V,Below W.heap.size W V → V.cell? ad = some (.int .u8 (237))) (hm : m = 1) (hcp : m ≤ cp) :
    Calls Tryz.prog 11 #[.slice (some ad) m cp] W fun e V => e = .returned (.tuple #[.agg (insC 0 0 0 0 0 0),.int .i64 5]) ∧ Below W.heap.size W V :=by
  have hE :=Aside0.mk (Env.nil W)
  replace hc0 :=Aside0.mk hc0
  replace hm :=Aside0.mk hm
  replace hcp :=Aside0.mk hcp
  go_enter Tryz.func11,Tryz.ntmps11
  have em0 : ((m : Int) == 0) = false :=by have :=hm.out;have :=hcp.out;simp;omega
  have g0 : 0 < m :=by have :=hm.out;have :=hcp.out;omega
  have f2 : decide ((m : Int) < 2) = true :=by have :=hm.out;have :=hcp.out;exact decide_eq_true (by omega)
  have fa : decide ((m : Int) ≤ 1) = true :=by have :=hm.out;have :=hcp.out;exact decide_eq_true (by omega)
  go_wp2_with (first | ((with_reducible refine gate_alloc 28 ?_);refine zab hE.out rfl (insC 0 0 0 0 0 0) 28 (by kernel_rfl) ?_;intro V g hE';replace hE :=Aside0.mk hE';clear hE') | ((with_reducible refine gate_mkMap 73 ?_);refine zbr hE.out rfl rfl ?_;intro V r0 hE';replace hE :=Aside0.mk hE';clear hE') | ((with_reducible refine gate_insMap 73 ?_);first | (refine zbw hE.out rfl _ _ _ rfl rfl rfl rfl ?_;intro V hE';replace hE :=Aside0.mk hE';clear hE') | (refine zbv hE.out rfl _ _ _ rfl rfl rfl rfl ?_;intro V hE';replace hE :=Aside0.mk hE';clear hE')) | ((with_reducible refine gate_load 5 ?_);(try refine gate_guard (by rfl) ?_);first | refine zam rfl _ rfl rfl (hc0.out _ hE.out.b) ?_ | refine zam rfl _ rfl rfl (hc0.out _ hE.out.env.b) ?_) | (go_at_call 36;refine (yct.calls _ false _ (by decide)).mono ?_;rintro e V3 ⟨rfl,hd5⟩;replace hE :=Aside0.mk (hE.out.under (zai hd5));clear hd5) | ((with_reducible refine gate_lookMap 73 ?_);refine zbi hE.out rfl _ _ rfl (237) 2 rfl rfl (by decide) ?_;replace hE :=Aside0.mk hE.out.env) | ((with_reducible refine gate_bld 28 ?_);(try refine gate_guard (by rfl) ?_);refine zao rfl rfl (.agg (insC 0 0 0 0 0 0)) (by kernel_rfl) ?_) | ((with_reducible refine gate_store 28 ?_);refine zac hE.out rfl 1 rfl 28 _ _ rfl _ rfl rfl rfl (by kernel_rfl) (zbc _ _ _ _ _ _) ?_;intro V hE';(try dsimp only [List.set_cons_zero,List.set_cons_succ] at hE');replace hE :=Aside0.mk hE';clear hE'))
  have r1 :=run_loadVar_mid (P :=Tryz.prog) _ _ 0 28 (insC 0 0 0 0 0 0).toList _ (hE.out.at_ 1 _ _ rfl).2.range Tryz.underlying28 rfl zca
  refine bodyPost_ret (v :=.tuple #[.agg (insC 0 0 0 0 0 0),.int .i64 5]) ?_ rfl ⟨rfl,hE.out.b⟩
  simp [results,Tryz.results11,asAddr,r1,Act.put]
end Go.Proofs.YtnelghpendfdmaaGreatDoor.KRow
