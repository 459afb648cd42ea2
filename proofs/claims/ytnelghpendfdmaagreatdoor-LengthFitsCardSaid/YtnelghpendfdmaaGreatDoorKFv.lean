/-
  PROVED: pendulumlaw11.StepBlocks answers true.
-/
import Derived.Test.YtnelghpendfdmaaGreatDoorKFx
import Derived.Test.YtnelghpendfdmaaGreatDoorHRef9
namespace Go.Proofs.YtnelghpendfdmaaGreatDoor.KRow
open Go Go.RowKit Go.Proofs.YtnelghpendfdmaaGreatDoorW.PrintWords Go.Proofs.YtnelghpendfdmaaGreatDoorW.PrintLast Go.Proofs.YtnelghpendfdmaaGreatDoorW.PrintMore
open Go.Proofs.YtnelghpendfdmaaGreatDoor.HFun
set_option linter.unusedVariables false
set_option linter.unusedSimpArgs false
theorem Env.one {w0 V : World} {bs : List (Nat × Array Value)} (h : Env w0 V bs) {i : Nat} {x : Nat × Array Value} (hi : bs[i]? = some x) : Env w0 V [x] := by
  refine ⟨h.b, fun k g cs hk => ?_, fun a b g c1 c2 ha hb => ?_⟩
  · match k, hk with
    | 0, hk => obtain rfl : x = (g, cs) := by simpa using hk
               exact h.at_ i g cs hi
  · match a, b, ha, hb with
    | 0, 0, _, _ => rfl
theorem Sch.st1 {w0 V : World} {bs : List (Nat × Array Value)} {ops : Array Oper} {S : World → Prop} {Q : Exit → Act → World → Prop} {tl : List Nat} {i m : Nat} {o : Oper} {r : List (Nat × Nat)} {a : Act} (h : Env w0 V bs) (j : Nat) {g : Nat} {cs : Array Value} (hj : bs[j]? = some (g, cs)) (ho : ops[i]? = some o) (hN : o.dst = none) (hg : Region.wanted o (yielded ops a.tmps) = true)
    (ty : TypeId) (x y : Operand) (hop : o.op = .store ty x y) (k0 : Nat) (v : Value) (hx : a.eval x = .pointer (some ⟨g, k0, none⟩)) (hy : a.eval y = v) (hinf : (Tryz.prog.info? ty).map (·.size) = some 1) (hvc : v.cells = #[v]) (h1 : v.oneCell' = true) (hlt : k0 < cs.size)
    (k : ∀ V', Env w0 V' (bs.set j (g, cs.setIfInBounds k0 v)) → S V' ∧ Sch Tryz.prog ops S Q tl r a V') : Sch Tryz.prog ops S Q tl ((i, m + 2) :: r) a V := by
  have hB := (h.at_ j g cs hj).2
  obtain ⟨old, hold⟩ : ∃ u, cs.toList[k0]? = some u := ⟨_, List.getElem?_eq_getElem (by simpa using hlt)⟩
  have hrun := zbf (W := V) (g := g) hinf v k0 hvc h1 (by rw [hB.cell _ _ hold]; rfl) (hB.frz _)
  have hkp := (Kp.refl g V).setCell k0 v
  have hk := k _ (h.put hj hkp ⟨Nat.lt_of_lt_of_le hB.lt hkp.size, fun k u hu => ?_, fun k => (World.frozen?_setCell _ _ _ _).trans (hB.frz k)⟩)
  · refine Sch.skip ho hN hg ?_ hk.1 hk.2
    unfold execOp
    simp only [hop, hx, hy, Instr.storeAt, Instr.sureAddr, Sem.run_bind, Sem.run_pure, Result.andThen_ok, hrun]
  · rw [Array.toList_setIfInBounds, List.getElem?_set] at hu
    by_cases e : k0 = k
    · subst e
      have hl : k0 < cs.toList.length := by simpa using hlt
      simp only [if_true, hl, Option.some.injEq] at hu
      subst hu
      exact World.cell?_setCell_same V _ _ (hB.cell k0 _ hold)
    · rw [if_neg e] at hu
      exact (World.cell?_setCell_other V _ _ _ (by simp [e])).trans (hB.cell k u hu)
set_option maxRecDepth 100000
set_option maxHeartbeats 16000000
theorem lok {W : World} {g : Nat} {ρ : Rg} {m : Nat → Int} (h : FlatB W g ρ m) : Calls Tryz.prog 42 #[.pointer (some ⟨g,0,none⟩)] W fun e V => e = .returned (.bool true) ∧ V = W :=by
 have q0 :=h.made
 clear h
 go_enter Tryz.func42,Tryz.ntmps42
 go_wp2_with fail
 go_ret
 exact ⟨rfl,rfl⟩
theorem FlatB.range {W : World} {g : Nat} {ρ : Rg} {m : Nat → Int} (h : FlatB W g ρ m) : W.rangeAt g 0 ρ.vals.toList :=fun j v hj => by rw [Nat.zero_add];exact h.regs j v hj
theorem wpList_ldF {V : World} {g : Nat} {ρ : Rg} {m : Nat → Int} (h : FlatB V g ρ m) {ops : Array Oper} {rest : List Oper} {op : Oper} {a : Act} {Q : Exit → Act → World → Prop} (hgd : op.guard = none) (x : Operand) (ho : op.op = .load 24 x)
  (hx : a.eval x = .pointer (some ⟨g,0,none⟩)) (k : wpList Tryz.prog ops Q rest (a.put op.dst (.agg ρ.vals)) V) : wpList Tryz.prog ops Q (op :: rest) a V :=by
 refine wpList_plain hgd fun _ hK => ?_
 have :=ld24 g ρ V h.range
 unfold Oper.wp execOp
 simp only [ho,hx,this,Sem.run_bind,Sem.run_pure,Result.andThen_ok]
 exact hK _ _ k
theorem lregs {W : World} {g : Nat} {ρ : Rg} {m : Nat → Int} (h : FlatB W g ρ m) : Calls Tryz.prog 23 #[.pointer (some ⟨g,0,none⟩)] W fun e V => e = .returned (.agg ρ.vals) ∧ Below W.heap.size W V :=by
 have hE :=Aside0.mk (Env.nil W)
 replace h :=Aside0.mk h
 go_enter Tryz.func23,Tryz.ntmps23
 go_wp2_with (first | ((with_reducible refine gate_alloc 24 ?_);refine zab hE.out rfl (zeroRg.vals) 24 (by kernel_rfl) ?_;intro V gx hE';replace hE :=Aside0.mk hE';clear hE') | (go_at_call 42;refine (lok (h.out.under hE.out.b)).mono ?_;rintro e V2 ⟨rfl,rfl⟩) | ((with_reducible refine gate_store 24 ?_);refine zac hE.out rfl 0 rfl 24 _ _ rfl _ rfl rfl rfl (by kernel_rfl) (zcb _) ?_;intro V hE';replace hE :=Aside0.mk hE';clear hE') | ((with_reducible refine gate_load 24 ?_);refine wpList_ldF (h.out.under hE.out.b) rfl _ rfl rfl ?_))
 have r2 :=run_loadVar_mid (P :=Tryz.prog) _ _ 0 24 (Rg.vals ρ).toList _ (hE.out.at_ 0 _ _ rfl).2.range Tryz.underlying24 rfl info24
 refine bodyPost_ret (v :=.agg ρ.vals) ?_ rfl ⟨rfl,hE.out.b⟩
 simp [results,Tryz.results23,asAddr,r2,Act.put]
open Go Go.RowKit Go.Proofs.YtnelghpendfdmaaGreatDoorW.PrintWords Go.Proofs.YtnelghpendfdmaaGreatDoor.HFun
structure Ins where
 s : Int
 x : Int
 o : Int
 d : Int
 i : Int
 n : Int
def Ins.zero : Ins :=⟨0,0,0,0,0,0⟩
noncomputable def sg (v : Int) : Int :=(ydb.f v).getD 0
noncomputable def refMain (l : List Int) (j : Nat) (s x : Int) : Ins × Int :=
 let p :=(yce.f 20 s x (rd l (j : Int))).getD (false,0)
 let D : Nat :=if p.1 = true then 1 else 0
 let L : Nat :=j + 1 + D + p.2.toNat
 if l.length < L then (Ins.zero,5) else
  (⟨s,x,rd l (j : Int),if p.1 = true then sg (rd l ((j + 1 : Nat) : Int)) else 0,
   if p.2 = 1 then (if s = 0 ∧ ycp.f (rd l (j : Int)) = some true then sg (rd l ((j + 1 + D : Nat) : Int)) else rd l ((j + 1 + D : Nat) : Int))
   else if p.2 = 2 then rd l ((j + 1 + D : Nat) : Int) + 256 * rd l ((j + 2 + D : Nat) : Int) else 0,(L : Int)⟩,0)
noncomputable def refOf (l : List Int) : Ins × Int :=
 if l.length = 0 then (Ins.zero,5)
 else if rd l 0 = 221 ∨ rd l 0 = 253 then
  (if l.length < 2 then (Ins.zero,5)
  else if rd l 1 = 237 ∨ rd l 1 = 221 ∨ rd l 1 = 253 then (⟨0,0,rd l 0,0,0,1⟩,0)
  else if rd l 1 = 203 then (if l.length < 4 then (Ins.zero,5) else (⟨3,if rd l 0 = 253 then 2 else 1,rd l 3,sg (rd l 2),0,4⟩,0))
  else refMain l 1 0 (if rd l 0 = 253 then 2 else 1))
 else if rd l 0 = 203 then (if l.length < 2 then (Ins.zero,5) else refMain l 1 1 0)
 else if rd l 0 = 237 then (if l.length < 2 then (Ins.zero,5) else refMain l 1 2 0)
 else refMain l 0 0 0
def combos : List (Bool × Nat) :=[(false,0),(false,1),(false,2),(true,0),(true,1)]
def tabB (n x : Nat) : Bool :=combos.any fun p => (yce.f 20 0 (x : Int) (n : Int) == some (p.1,(p.2 : Int))) && (ych.f 20 0 (x : Int) (n : Int) == some (((if x = 0 then 0 else 1) + 1 + (if p.1 = true then 1 else 0) + p.2 : Nat) : Int)) &&
 (nMain (n : Int) (x : Int) == (if p.1 = true then 1 else 0) + p.2) && (!p.1 || (x != 0 && (p.2 != 1 || ycp.f (n : Int) == some false)))
theorem tab_n : ∀ n : Nat,n < 256 → ∀ x : Nat,x < 3 → (tabB n x || n == 203 || n == 237 || n == 221 || n == 253) = true :=by decide +kernel
theorem tab_bits : ∀ n : Nat,n < 256 → yce.f 20 1 0 (n : Int) = some (false,0) ∧ ych.f 20 1 0 (n : Int) = some 2 :=by decide +kernel
theorem tab_more : ∀ n : Nat,n < 256 → ∃ k ∈ ([0,2] : List Nat),yce.f 20 2 0 (n : Int) = some (false,(k : Int)) ∧ ych.f 20 2 0 (n : Int) = some ((2 + k : Nat) : Int) ∧ nMore (n : Int) = k :=by decide +kernel
theorem byte_all {P : Int → Prop} (h : ∀ n : Nat,n < 256 → P (n : Int)) {b : Int} (h0 : 0 ≤ b) (h1 : b < 256) : P b :=by
 have :=h b.toNat (by omega)
 rwa [Int.toNat_of_nonneg h0] at this
theorem tab_main {o : Int} (h0 : 0 ≤ o) (h1 : o < 256) (hne : o ≠ 203 ∧ o ≠ 237 ∧ o ≠ 221 ∧ o ≠ 253) (x : Nat) (hx : x < 3) : ∃ p ∈ combos,yce.f 20 0 (x : Int) o = some (p.1,(p.2 : Int)) ∧
  ych.f 20 0 (x : Int) o = some (((if x = 0 then 0 else 1) + 1 + (if p.1 = true then 1 else 0) + p.2 : Nat) : Int) ∧ nMain o (x : Int) = (if p.1 = true then 1 else 0) + p.2 ∧ (p.1 = true → x ≠ 0 ∧ (p.2 = 1 → ycp.f o = some false)) :=by
 obtain ⟨n,rfl⟩ : ∃ n : Nat,o = (n : Int) :=⟨o.toNat,(Int.toNat_of_nonneg h0).symm⟩
 have h :=tab_n n (by omega) x hx
 have e1 : (n == 203) = false :=by simp;omega
 have e2 : (n == 237) = false :=by simp;omega
 have e3 : (n == 221) = false :=by simp;omega
 have e4 : (n == 253) = false :=by simp;omega
 rw [e1,e2,e3,e4] at h
 simp only [Bool.or_false,tabB,List.any_eq_true,Bool.and_eq_true,beq_iff_eq] at h
 obtain ⟨p,hp,⟨⟨h1,h2⟩,h3⟩,h4⟩ :=h
 refine ⟨p,hp,h1,h2,h3,fun hp1 => ?_⟩
 rw [hp1] at h4
 simp only [Bool.not_true,Bool.false_or,Bool.and_eq_true,bne_iff_ne,Bool.or_eq_true,beq_iff_eq] at h4
 refine ⟨h4.1,fun h5 => ?_⟩
 rcases h4.2 with h6 | h6
 ·exact absurd h5 h6
 ·exact h6
theorem sg_some (v : Int) : ydb.f v = some (sg v) :=by
 unfold sg ydb.f
 split <;> rfl
theorem rel_some (o : Int) : ycp.f o = some true ∨ ycp.f o = some false :=by
 unfold ycp.f
 split
 ·split
  ·cases (Int.tmod o 8 == 0) <;> simp
  ·exact .inr rfl
 ·exact .inr rfl
theorem rd_rng {l : List Int} (hl : ∀ x ∈ l,0 ≤ x ∧ x < 256) {j : Nat} (hj : j < l.length) : 0 ≤ rd l (j : Int) ∧ rd l (j : Int) < 256 :=by
 have : rd l (j : Int) = l[j] :=by simp [rd,hj]
 rw [this]
 exact hl _ (List.getElem_mem hj)
theorem take_rd1 {l : List Int} {n : Nat} (h : 1 ≤ n) (hn : n ≤ l.length) : l.take n = rd l 0 :: (l.drop 1).take (n - 1) :=by
 match l,h,hn with
 | a :: r,h,hn =>
  obtain ⟨m,rfl⟩ : ∃ m,n = m + 1 :=⟨n - 1,by omega⟩
  simp [rd]
 | [],h,hn => simp at hn;omega
theorem take_rd2 {l : List Int} {n : Nat} (h : 2 ≤ n) (hn : n ≤ l.length) : l.take n = rd l 0 :: rd l 1 :: (l.drop 2).take (n - 2) :=by
 match l,h,hn with
 | a :: b :: r,h,hn =>
  obtain ⟨m,rfl⟩ : ∃ m,n = m + 2 :=⟨n - 2,by omega⟩
  simp [rd]
 | [a],h,hn => simp at hn;omega
 | [],h,hn => simp at hn;omega
theorem Env.kpf {w0 V V' : World} {bs : List (Nat × Array Value)} {r : Nat} (h : Env w0 V bs) (hk : Kp r V V') (hle : w0.heap.size ≤ r) (hne : ∀ (j g : Nat) (cs : Array Value),bs[j]? = some (g,cs) → g ≠ r) : Env w0 V' bs :=
 ⟨h.b.trans (hk.below h.size hle),fun j g cs hj => ⟨(h.at_ j g cs hj).1,(h.at_ j g cs hj).2.kp hk (hne j g cs hj)⟩,h.ne⟩
theorem wpList_stM {V : World} {g : Nat} {ρ : Rg} {m : Nat → Int} (h : FlatB V g ρ m) {ops : Array Oper} {rest : List Oper} {op : Oper} {a : Act} {Q : Exit → Act → World → Prop} (hgd : op.guard = none) (x y : Operand) (ho : op.op = .store 5 x y) (k0 : Nat) (v : Int)
  (hx : a.eval x = .pointer (some ⟨g,24 + k0,none⟩)) (hy : a.eval y = .int .u8 v) (hlt : k0 < 65536)
  (k : ∀ V',V' = V.setCell ⟨g,24 + k0,none⟩ (.int .u8 v) → wpList Tryz.prog ops Q rest (a.put op.dst undef) V') : wpList Tryz.prog ops Q (op :: rest) a V :=by
 refine wpList_plain hgd fun _ hK => ?_
 have hrun :=zbf (W :=V) (g :=g) (ty :=5) (by kernel_rfl) (.int .u8 v) (24 + k0) rfl rfl (by rw [h.mem k0 hlt];rfl) (h.frz _)
 unfold Oper.wp execOp
 simp only [ho,hx,hy,Instr.storeAt,Instr.sureAddr,Sem.run_bind,Sem.run_pure,Result.andThen_ok,hrun]
 exact hK _ _ (k _ rfl)
theorem wpList_boxF {w0 V : World} {bs : List (Nat × Array Value)} (h : Env w0 V bs) {ρ : Rg} {ops : Array Oper} {rest : List Oper} {op : Oper} {a : Act} {Q : Exit → Act → World → Prop} (hgd : op.guard = none) (x : Operand) (ho : op.op = .box 80 x) (hx : a.eval x = .agg (c80 ρ))
  (k : ∀ V' g,Env w0 V' bs → w0.heap.size ≤ g → (∀ (j g' : Nat) (cs : Array Value),bs[j]? = some (g',cs) → g' ≠ g) → FlatB V' g ρ (fun _ => 0) → wpList Tryz.prog ops Q rest (a.put op.dst (.pointer (some ⟨g,0,none⟩))) V') : wpList Tryz.prog ops Q (op :: rest) a V :=by
 refine wpList_plain hgd fun _ hK => ?_
 have hrun : (execOp a.eval op).run Tryz.prog V = .ok (.value (.pointer (some ⟨V.heap.size,0,none⟩))) (V.alloc (.cells (c80 ρ) 80)) :=by
  unfold execOp
  simp only [ho,hx]
  generalize c80 ρ = cs
  rfl
 unfold Oper.wp
 simp only [hrun]
 exact hK _ _ (k _ _ (h.under (below_alloc (Below.refl _ _) _)) h.size (fun j g' cs hj he => by have :=h.lt hj;omega) (flat_new V ρ 80))
def wrUp (a : Int) (b : List Int) : Nat → Nat → Int
 | 0 => fun _ => 0
 | i + 1 => wrM (wrUp a b i) ((a + (i : Int)) % 65536).toNat (rd b (i : Int))
theorem lnew {W : World} {A : Option Addr} {b : List Int} {cp : Nat} {ρ : Rg} {a : Int} (hG : ∀ V,Below W.heap.size W V → Kd.C (Kd.int .u8) V A b.length b) (hcp : b.length ≤ cp) (hbr : ∀ x ∈ b,0 ≤ x ∧ x < 256) (hok : (decide (ρ.im < 0) || decide (ρ.im > 2)) = false) (hl : b.length ≤ 300) (a0 : 0 ≤ a) (a1 : a < 65536) :
  Calls Tryz.prog 13 #[.agg ρ.vals,.int .u16 a,.slice A b.length cp] W fun e V => ∃ g : Nat,e = .returned (.tuple #[.pointer (some ⟨g,0,none⟩),.int .i64 0]) ∧ Below W.heap.size W V ∧ W.heap.size ≤ g ∧ FlatB V g ρ (wrUp a b b.length) :=by
 have hck : regs_Check.f ρ.a ρ.f ρ.b ρ.c ρ.d ρ.e ρ.h ρ.l ρ.i ρ.r ρ.ix ρ.iy ρ.sp ρ.pc ρ.wz ρ.af ρ.bc ρ.de ρ.hl ρ.ff1 ρ.ff2 ρ.im ρ.halt ρ.late = some 0 :=by
  simp only [Bool.or_eq_false_iff,decide_eq_false_iff_not] at hok
  unfold regs_Check.f
  rw [if_neg (by omega),if_neg (by omega)]
 have hE :=Aside0.mk (Env.nil W)
 replace hG :=Aside0.mk hG
 replace hcp :=Aside0.mk hcp
 replace hbr :=Aside0.mk hbr
 replace hck :=Aside0.mk hck
 have dl : decide (65536 < (b.length : Int)) = false :=decide_eq_false (by omega)
 replace hl :=Aside0.mk hl
 replace a0 :=Aside0.mk a0
 replace a1 :=Aside0.mk a1
 clear hok
 obtain ⟨k,hk⟩ : ∃ k,k = b.length :=⟨_,rfl⟩
 replace hk :=Aside0.mk hk
 go_enter Tryz.func13,Tryz.ntmps13
 go_upto_region 7 with (first | ((with_reducible refine gate_box 24 ?_);refine zab hE.out rfl (Rg.vals _) 24 rfl ?_;intro V g3 hE';replace hE :=Aside0.mk hE';clear hE') | ((with_reducible refine gate_load 24 ?_);refine zaf hE.out rfl 0 rfl 24 _ rfl rfl (ld24 _ _) ?_) | (go_at_call 41;refine (regs_Check.calls _ _ _ _ _ _ _ _ _ _ _ _ _ _ _ _ _ _ _ _ _ _ _ _ _ _ hck.out).mono ?_;rintro e V2 ⟨rfl,hb⟩;replace hE :=Aside0.mk (hE.out.under hb);clear hb) | ((with_reducible refine gate_bld 80 ?_);refine zao rfl rfl (.agg (c80 ρ)) (run_build80 rfl rfl rfl _) ?_) | ((with_reducible refine gate_box 80 ?_);refine wpList_boxF hE.out rfl _ rfl rfl ?_;intro V gF hE' hgF hne hF;replace hE :=Aside0.mk hE';replace hgF :=Aside0.mk hgF;replace hne :=Aside0.mk hne;replace hF :=Aside0.mk hF;clear hE'))
 go_wp2_with fail
 go_loopg [25] k (fun kq v25 w' => ∃ (i : Nat),Aside0 (kq + i = b.length) ∧ Aside0 (Env W w' [(g3,ρ.vals)]) ∧ Aside0 (FlatB w' gF ρ (wrUp a b i)) ∧ v25 = .int .i64 (i : Int))
 case atStart => exact ⟨0,⟨by have :=hk.out;omega⟩,hE,hF,rfl⟩
 case round =>
  obtain ⟨i,hi,hE,hF,rfl⟩ :=hrel
  cases gk with
  | zero =>
   have hi' : i = b.length :=by have :=hi.out;omega
   subst hi'
   have d1 : decide ((b.length : Int) < (b.length : Int)) = false :=decide_eq_false (by omega)
   go_wp2_with fail
   go_ret2
   exact ⟨gF,rfl,hE.out.b,hgF.out,hF.out⟩
  | succ k1 =>
   have hlt : i < b.length :=by have :=hi.out;omega
   obtain ⟨ad,ea,_⟩ :=Kd.at_int (hG.out _ (Below.refl _ _)) (i : Int) (by omega) (by omega)
   subst ea
   have hcell : ∀ V,Below W.heap.size W V → V.cell? (ad.add i) = some (.int .u8 (rd b i)) :=fun V hb => by
    obtain ⟨ad',e',h'⟩ :=Kd.at_int (hG.out V hb) (i : Int) (by omega) (by omega)
    cases e'
    simpa using h'
   replace hcell :=Aside0.mk hcell
   have hx : IntKind.u16.wrap (a + IntKind.u16.wrap (i : Int)) = (a + (i : Int)) % 65536 :=by simp only [B.wu16];omega
   have e6 : wrap64 ((i : Int) + 1) = ((i + 1 : Nat) : Int) :=by rw [B.w64 (by omega) (by have :=hl.out;omega)];omega
   have hb1 : IntKind.u16.wrap (a + IntKind.u16.wrap (i : Int)) < 65536 :=by rw [hx];omega
   replace hx :=Aside0.mk hx
   go_wp2_with (first | ((with_reducible refine gate_load 5 ?_);refine zam rfl _ rfl rfl (hcell.out _ hE.out.b) ?_) | ((with_reducible refine gate_store 5 ?_);refine wpList_stM hF.out rfl _ _ rfl _ _ rfl rfl (by rw [hx.out];omega) ?_;intro V' hV';rw [hx.out] at hV';replace hE :=Aside0.mk (hE.out.kpf (r :=gF) (V' :=V') (by rw [hV'];exact (Kp.refl gF _).setCell _ _) hgF.out hne.out);replace hF : Aside0 (FlatB V' gF ρ (wrUp a b (i + 1))) :=⟨by rw [hV'];exact hF.out.setMem (a :=((a + (i : Int)) % 65536).toNat) (by omega) _⟩;clear hV'))
   go_roundg k1
   case measure => omega
   case rel => exact ⟨i + 1,⟨by have :=hi.out;omega⟩,hE,hF,by rw [e6]⟩
end Go.Proofs.YtnelghpendfdmaaGreatDoor.KRow
