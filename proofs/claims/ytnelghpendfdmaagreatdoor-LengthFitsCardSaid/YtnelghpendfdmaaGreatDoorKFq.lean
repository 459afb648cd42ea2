/-
 PROVED: length.Of, of an instruction whose plan is known.
-/
import Derived.Test.YtnelghpendfdmaaGreatDoorKFl
namespace Go.Proofs.YtnelghpendfdmaaGreatDoor.KRow
open Go Go.RowKit Go.Proofs.YtnelghpendfdmaaGreatDoorW.PrintWords Go.Proofs.YtnelghpendfdmaaGreatDoorW.PrintLast Go.Proofs.YtnelghpendfdmaaGreatDoorW.PrintMore
open Go.Proofs.YtnelghpendfdmaaGreatDoor.HFun
set_option linter.unusedVariables false
set_option linter.unusedSimpArgs false
theorem info3c : (Tryz.prog.info? 3).map (fun i => (i.zero,i.size,i.bytes)) = some (some (.int .i64 0),1,8) :=by kernel_rfl
structure EnvI (w0 V : World) (bs : List (Nat × Array Value)) (vg : Value) (got : List Int) : Prop where
 env : Env w0 V bs
 g : (Kd.int .i64).R 3 V w0.heap.size (OffB bs) vg got
theorem EnvI.start {w0 V : World} {bs : List (Nat × Array Value)} (h : Env w0 V bs) : EnvI w0 V bs (.slice none 0 0) [] :=⟨h,Kd.R_nil _ _ _ _ _⟩
theorem wpList_app3 {w0 V : World} {bs : List (Nat × Array Value)} {vg : Value} {got : List Int} {ops : Array Oper} {rest : List Oper} {op : Oper} {a : Act} {Q : Exit → Act → World → Prop} (h : EnvI w0 V bs vg got) (x : Int) (hgd : op.guard = none) (s y : Operand) (ho : op.op = .call { callee :=.builtin .append,args :=#[s,y],argTypes :=#[41,41] }) (hs : a.eval s = vg) (hy : a.eval y = .slice (some ⟨V.heap.size,0,none⟩) 1 1) (hl : got.length ≤ 1000)
  (k : ∀ v1 V',EnvI w0 V' bs v1 (got ++ [x]) → wpList Tryz.prog ops Q rest (a.put op.dst v1) V') : wpList Tryz.prog ops Q (op :: rest) a (V.alloc (.cells #[.int .i64 x] 3)) :=by
 refine Kd.R_append (Kd.int .i64) (w0 :=w0) w0.heap.size hgd s y 41 3 (.int .i64 0) 8 ho Tryz.underlying41 info3c rfl (by decide) (by omega) vg got x [.int .i64 x] (OffB bs) (fun _ => False) hs hy rfl (fun _ hk => hk.elim) (fun k hk j g cs hj => ?_) h.g h.env.b h.env.size (by omega) ?_
 ·have :=h.env.lt hj
  omega
 ·intro v1 w1 ho hb hg hat
  exact k v1 w1 ⟨env_grown h.env hg hb hg.size (fun k hk => h.g.1 k hk),ho⟩
theorem below_bytes (V : World) (s : ByteArray) : Below V.heap.size V (Go.Lib.bytesWorld V 5 s) :=
 ⟨rfl,rfl,rfl,by rw [Go.Lib.bytesWorld_size];omega,fun k hk => Go.Lib.bytesWorld_at_old V 5 s k hk⟩
theorem wpList_conv {w0 V : World} {bs : List (Nat × Array Value)} {ops : Array Oper} {rest : List Oper} {op : Oper} {a : Act} {Q : Exit → Act → World → Prop} (h : Env w0 V bs) (hgd : op.guard = none) (x : Operand) (ho : op.op = .convert 9 25 x) (s : ByteArray) (hx : a.eval x = .string s)
  (k : ∀ V' g c,Env w0 V' bs → (∀ V2,Below V'.heap.size V' V2 → ∀ j,j < s.size → V2.cell? ⟨g,j,none⟩ = some (.int .u8 (s.data.toList.getD j 0).toNat)) → wpList Tryz.prog ops Q rest (a.put op.dst (.slice (some ⟨g,0,none⟩) s.size c)) V') : wpList Tryz.prog ops Q (op :: rest) a V :=by
 refine wpList_plain hgd fun _ hK => ?_
 have hrun : (execOp a.eval op).run Tryz.prog V = .ok (.value (.slice (some ⟨V.heap.size,0,none⟩) s.size (grownCap V s.size 0 5))) (Go.Lib.bytesWorld V 5 s) :=by
  have :=Go.Lib.run_convert_string_bytes (P :=Tryz.prog) V 9 25 5 s Tryz.underlying9 Tryz.underlying25 Tryz.underlying5
  unfold execOp
  simp only [ho,hx]
  simp [this,Result.andThen]
 unfold Oper.wp
 simp only [hrun]
 refine hK _ _ (k _ _ _ (h.under (below_bytes V s)) fun V2 hb j hj => ?_)
 have hlt : V.heap.size < (Go.Lib.bytesWorld V 5 s).heap.size :=by rw [Go.Lib.bytesWorld_size];omega
 exact (World.cell?_of_block (w :=Go.Lib.bytesWorld V 5 s) (a :=⟨V.heap.size,j,none⟩) (hb.block _ hlt)).trans (Go.Lib.bytesWorld_cell V 5 s j hj)
theorem gate_cv (ty : TypeId) {P : Program} {ops : Array Oper} {Q : Exit → Act → World → Prop} {W : World} {rest : List Oper} {d x ty' t p af gd a} (h : wpList P ops Q ({ dst :=d,op :=.convert ty ty' x,type :=t,pos :=p,after :=af,guard :=gd } :: rest) a W) : wpList P ops Q ({ dst :=d,op :=.convert ty ty' x,type :=t,pos :=p,after :=af,guard :=gd } :: rest) a W :=h
set_option maxHeartbeats 16000000 in
set_option maxRecDepth 100000 in
theorem lOfL {W : World} {m : Bool} {i0 i1 i2 i3 i4 i5 : Int} {s0 s1 s : ByteArray} {ds : List Int} (hs : s = if m = true then s1 else s0) (hchk : yci.f 20 i0 i1 i2 i3 i4 i5 = some 0) (h47 : ∀ V,Calls Tryz.prog 47 #[.agg (insC i0 i1 i2 i3 i4 i5)] V fun e V' => e = .returned (.agg (plC s0 s1)) ∧ Below V.heap.size V V') (hn : ds.length = s.size) (hn9 : ds.length ≤ 900) (hd : ∀ j : Nat,j < ds.length → (((s.data.toList.getD j 0).toNat : Int) = 48 + rd ds (j : Int) ∧ 0 ≤ rd ds (j : Int) ∧ rd ds (j : Int) ≤ 9) ∨ (((s.data.toList.getD j 0).toNat : Int) = 87 + rd ds (j : Int) ∧ 10 ≤ rd ds (j : Int) ∧ rd ds (j : Int) ≤ 35)) :
  Calls Tryz.prog 17 #[.agg (insC i0 i1 i2 i3 i4 i5),.bool m] W fun e V => ∃ A c,e = .returned (.tuple #[.slice A ds.length c,.int .i64 0]) ∧ Below W.heap.size W V ∧ ds.length ≤ c ∧ ∀ V',Below V.heap.size V V' → Kd.C (Kd.int .i64) V' A ds.length ds :=by
 have hE :=Aside0.mk (Env.nil W)
 replace hchk :=Aside0.mk hchk
 replace h47 :=Aside0.mk h47
 replace hd :=Aside0.mk hd
 replace hn9 :=Aside0.mk hn9
 obtain ⟨k,hk⟩ : ∃ k,k = ds.length :=⟨_,rfl⟩
 replace hk :=Aside0.mk hk
 replace hn :=Aside0.mk hn
 cases m
 all_goals
  simp only [Bool.false_eq_true,if_false,if_true] at hs
  subst hs
  go_enter Tryz.func17,Tryz.ntmps17
  go_upto_region 8 with (first | ((with_reducible refine gate_box 28 ?_);refine zab hE.out rfl (insC i0 i1 i2 i3 i4 i5) 28 rfl ?_;intro V gi hE';replace hE :=Aside0.mk hE';clear hE') | ((with_reducible refine gate_load 28 ?_);refine zaf hE.out rfl 0 rfl 28 _ rfl rfl (ld28 _ _ _ _ _ _ _) ?_) | (go_at_call 46;refine (yci.calls 20 i0 i1 i2 i3 i4 i5 0 _ hchk.out).mono ?_;rintro e V3 ⟨rfl,hb⟩;replace hE :=Aside0.mk (hE.out.under hb);clear hb) | (go_at_call 47;refine (h47.out _).mono ?_;rintro e V3 ⟨rfl,hb⟩;replace hE :=Aside0.mk (hE.out.under hb);clear hb) | ((with_reducible refine gate_alloc 85 ?_);refine zab hE.out rfl (plC ByteArray.empty ByteArray.empty) 85 (by kernel_rfl) ?_;intro V g hE';replace hE :=Aside0.mk hE';clear hE') | ((with_reducible refine gate_store 85 ?_);(refine zac hE.out rfl 0 rfl 85 _ _ rfl _ rfl rfl rfl (by kernel_rfl) (zav _ _) ?_);intro V hE';(try dsimp only [List.set_cons_zero,List.set_cons_succ] at hE');replace hE :=Aside0.mk hE';clear hE') | ((with_reducible refine gate_load 9 ?_);refine zax hE.out rfl 0 rfl _ rfl _ _ rfl rfl ?_))
  go_wp2_with (((with_reducible refine gate_cv 9 ?_);refine wpList_conv hE.out rfl _ rfl _ rfl ?_;intro V gs cs hE' hcs;replace hE :=Aside0.mk hE';replace hcs :=Aside0.mk hcs;clear hE'))
  go_loopg [9,27] k (fun kq v9 v27 w' => ∃ (i : Nat) (y : List Int),Aside0 (kq + i = ds.length) ∧ Aside0 (y = ds.take i) ∧ Aside0 (EnvI V w' [] v9 y) ∧ v27 = .int .i64 (i : Int))
  case atStart => exact ⟨0,[],⟨by have :=hk.out;omega⟩,⟨rfl⟩,⟨EnvI.start (Env.nil _)⟩,rfl⟩
  case round =>
   obtain ⟨i,y,hi,hy,hI,rfl⟩ :=hrel
   obtain ⟨Ag,cg,eg,_,_⟩ :=Kd.R_reads hI.out.g
   subst eg
   cases gk with
   | zero =>
    have hi' : i = ds.length :=by have :=hi.out;omega
    subst hi'
    have hsz : ¬ (ds.length < s.size) :=by rw [hn.out];omega
    have ht : ds.take ds.length = ds :=List.take_length
    have hy2 :=hy.out
    rw [ht] at hy2
    subst hy2
    clear ht
    go_wp2_with fail
    go_ret2
    exact ⟨Ag,cg,rfl,hE.out.b.trans (hI.out.env.b.mono hE.out.size),(R_rd hI.out.g).1,fun V' hb => Kd.C_below (R_rd hI.out.g).2 hb⟩
   | succ k1 =>
    have hlt : i < ds.length :=by have :=hi.out;omega
    have hlt2 : i < s.size :=by rw [← hn.out];exact hlt
    rcases hd.out i hlt with ⟨hb1,hb2,hb3⟩ | ⟨hb1,hb2,hb3⟩
    ·skip
     have hcell : ∀ V2,Below V.heap.size V V2 → V2.cell? ⟨gs,i,none⟩ = some (.int .u8 (48 + rd ds (i : Int))) :=fun V2 hb => by
      have :=hcs.out V2 hb i hlt2
      rwa [hb1] at this
     have e1 : decide (97 ≤ 48 + rd ds (i : Int)) = false :=decide_eq_false (by omega)
     have e2 : IntKind.u8.wrap (48 + rd ds (i : Int) - 48) = rd ds (i : Int) :=by simp only [B.wu8];omega
     have e3 : wrap64 (rd ds (i : Int)) = rd ds (i : Int) :=B.w64 (by omega) (by omega)
     have e6 : wrap64 ((i : Int) + 1) = ((i + 1 : Nat) : Int) :=by rw [B.w64 (by omega) (by have :=hn9.out;omega)];omega
     have htk : ds.take (i + 1) = ds.take i ++ [rd ds (i : Int)] :=by
      rw [List.take_add_one]
      simp [rd,hlt]
     replace hcell :=Aside0.mk hcell
     replace htk :=Aside0.mk htk
     clear hb1 hb2 hb3
     go_wp2_with (first | ((with_reducible refine gate_load 5 ?_);refine zam rfl _ rfl rfl (hcell.out _ hI.out.env.b) ?_) | ((with_reducible refine gate_bsl 41 ?_);refine zbj rfl #[.int .i64 (wrap64 (rd ds i))] 3 1 (by kernel_rfl) ?_) | ((with_reducible refine gate_builtin (b :=.append) (xs :=#[.tmp 40,.tmp 44]) rfl ?_);at_builtin;refine wpList_app3 hI.out (wrap64 (rd ds i)) rfl (.tmp 40) (.tmp 44) rfl rfl rfl (by have :=hn9.out;have :=hy.out;subst this;rw [List.length_take];omega) ?_;intro v1 V3 hE';replace hI :=Aside0.mk hE';clear hE'))
     go_roundg k1
     case measure => omega
     case rel => exact ⟨i + 1,_,⟨by have :=hi.out;omega⟩,⟨by rw [htk.out,hy.out,e3]⟩,hI,by rw [e6]⟩
    ·skip
     have hcell : ∀ V2,Below V.heap.size V V2 → V2.cell? ⟨gs,i,none⟩ = some (.int .u8 (87 + rd ds (i : Int))) :=fun V2 hb => by
      have :=hcs.out V2 hb i hlt2
      rwa [hb1] at this
     have e1 : decide (97 ≤ 87 + rd ds (i : Int)) = true :=decide_eq_true (by omega)
     have e2 : IntKind.u8.wrap (87 + rd ds (i : Int) - 97) = rd ds (i : Int) - 10 :=by simp only [B.wu8];omega
     have e3 : wrap64 (wrap64 (rd ds i - 10) + 10) = rd ds (i : Int) :=by rw [(B.w64 (by omega) (by omega) : wrap64 (rd ds (i : Int) - 10) = rd ds (i : Int) - 10),B.w64 (by omega) (by omega)];omega
     replace e3 :=Aside0.mk e3
     have e6 : wrap64 ((i : Int) + 1) = ((i + 1 : Nat) : Int) :=by rw [B.w64 (by omega) (by have :=hn9.out;omega)];omega
     have htk : ds.take (i + 1) = ds.take i ++ [rd ds (i : Int)] :=by
      rw [List.take_add_one]
      simp [rd,hlt]
     replace hcell :=Aside0.mk hcell
     replace htk :=Aside0.mk htk
     clear hb1 hb2 hb3
     go_wp2_with (first | ((with_reducible refine gate_load 5 ?_);refine zam rfl _ rfl rfl (hcell.out _ hI.out.env.b) ?_) | ((with_reducible refine gate_bsl 41 ?_);refine zbj rfl #[.int .i64 ((wrap64 (wrap64 (rd ds i - 10) + 10)))] 3 1 (by kernel_rfl) ?_) | ((with_reducible refine gate_builtin (b :=.append) (xs :=#[.tmp 33,.tmp 38]) rfl ?_);at_builtin;refine wpList_app3 hI.out ((wrap64 (wrap64 (rd ds i - 10) + 10))) rfl (.tmp 33) (.tmp 38) rfl rfl rfl (by have :=hn9.out;have :=hy.out;subst this;rw [List.length_take];omega) ?_;intro v1 V3 hE';replace hI :=Aside0.mk hE';clear hE'))
     go_roundg k1
     case measure => omega
     case rel => exact ⟨i + 1,_,⟨by have :=hi.out;omega⟩,⟨by rw [htk.out,hy.out,e3.out]⟩,hI,by rw [e6]⟩
theorem lOf0 {W : World} {i0 i1 i2 i3 i4 i5 : Int} {s0 s1 : ByteArray} {ds : List Int} (hchk : yci.f 20 i0 i1 i2 i3 i4 i5 = some 0) (h47 : ∀ V,Calls Tryz.prog 47 #[.agg (insC i0 i1 i2 i3 i4 i5)] V fun e V' => e = .returned (.agg (plC s0 s1)) ∧ Below V.heap.size V V') (hn : ds.length = s0.size) (hn9 : ds.length ≤ 900) (hd : ∀ j : Nat,j < ds.length → ((s0.data.toList.getD j 0).toNat : Int) = 48 + rd ds (j : Int) ∧ 0 ≤ rd ds (j : Int) ∧ rd ds (j : Int) ≤ 9) : Calls Tryz.prog 17 #[.agg (insC i0 i1 i2 i3 i4 i5),.bool false] W fun e V => ∃ A c,e = .returned (.tuple #[.slice A ds.length c,.int .i64 0]) ∧ Below W.heap.size W V ∧ ds.length ≤ c ∧ ∀ V',Below V.heap.size V V' → Kd.C (Kd.int .i64) V' A ds.length ds :=lOfL (s :=s0) rfl hchk h47 hn hn9 fun j h => .inl (hd j h)
theorem lOf1 {W : World} {i0 i1 i2 i3 i4 i5 : Int} {s0 s1 : ByteArray} {ds : List Int} (hchk : yci.f 20 i0 i1 i2 i3 i4 i5 = some 0) (h47 : ∀ V,Calls Tryz.prog 47 #[.agg (insC i0 i1 i2 i3 i4 i5)] V fun e V' => e = .returned (.agg (plC s0 s1)) ∧ Below V.heap.size V V') (hn : ds.length = s1.size) (hn9 : ds.length ≤ 900) (hd : ∀ j : Nat,j < ds.length → ((s1.data.toList.getD j 0).toNat : Int) = 48 + rd ds (j : Int) ∧ 0 ≤ rd ds (j : Int) ∧ rd ds (j : Int) ≤ 9) : Calls Tryz.prog 17 #[.agg (insC i0 i1 i2 i3 i4 i5),.bool true] W fun e V => ∃ A c,e = .returned (.tuple #[.slice A ds.length c,.int .i64 0]) ∧ Below W.heap.size W V ∧ ds.length ≤ c ∧ ∀ V',Below V.heap.size V V' → Kd.C (Kd.int .i64) V' A ds.length ds :=lOfL (s :=s1) rfl hchk h47 hn hn9 fun j h => .inl (hd j h)
end Go.Proofs.YtnelghpendfdmaaGreatDoor.KRow
