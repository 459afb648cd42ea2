/-
  PROVED: the contracts of pendulumlaw11.next and lives.
-/
import Derived.Test.YtnelghpendfdmaaGreatDoorKTc
import Derived.Test.YtnelghpendfdmaaGreatDoorKEnv
namespace Go.Proofs.YtnelghpendfdmaaGreatDoor.KRow
set_option maxRecDepth 100000
set_option maxHeartbeats 16000000
open Go Go.RowKit Go.Proofs.YtnelghpendfdmaaGreatDoorW.PrintWords Go.Proofs.YtnelghpendfdmaaGreatDoorW.PrintLast Go.Proofs.YtnelghpendfdmaaGreatDoorW.PrintMore
open Go.Proofs.YtnelghpendfdmaaGreatDoor.HFun
set_option linter.unusedVariables false
set_option linter.unusedSimpArgs false
def nextV (c : To) : Value := .tuple #[.agg (reqC c.k c.a c.v c.t), .agg c.s.vals, .bool (c.d && (c.e == 0))]
theorem env_tab {w0 V : World} {bs : List (Nat × Array Value)} (h : Env w0 V bs) (ht : Table w0) : Table V := ht.below h.b ht.lt
noncomputable def nx (ρ : Rg) (peek : Int) (gl : List Int) : To := toldOf gl (Tr.run gl (({ toRg := ρ, peek := peek, x := 0, disp := false, adr := 0 } : Rw).instr (((gl.length : Nat) : Int) == 1)) 0)
theorem Env.two {w0 V : World} {bs : List (Nat × Array Value)} (h : Env w0 V bs) {i j : Nat} {x y : Nat × Array Value} (hi : bs[i]? = some x) (hj : bs[j]? = some y) (hij : i ≠ j) : Env w0 V [x, y] := by
  refine ⟨h.b, fun k g cs hk => ?_, fun a b g c1 c2 ha hb => ?_⟩
  · match k, hk with
    | 0, hk => obtain rfl : x = (g, cs) := by simpa using hk
               exact h.at_ i g cs hi
    | 1, hk => obtain rfl : y = (g, cs) := by simpa using hk
               exact h.at_ j g cs hj
  · match a, b, ha, hb with
    | 0, 0, _, _ => rfl
    | 1, 1, _, _ => rfl
    | 0, 1, ha, hb => obtain rfl : x = (g, c1) := by simpa using ha
                      obtain rfl : y = (g, c2) := by simpa using hb
                      exact absurd (h.ne i j g c1 c2 hi hj) hij
    | 1, 0, ha, hb => obtain rfl : y = (g, c1) := by simpa using ha
                      obtain rfl : x = (g, c2) := by simpa using hb
                      exact absurd (h.ne i j g c2 c1 hi hj) hij
theorem Env.run {w0 V : World} {bs : List (Nat × Array Value)} (h : Env w0 V bs) (i : Nat) {op : Oper} {a : Act} {g : Nat} {cs : Array Value} (hi : bs[i]? = some (g, cs)) {ty : TypeId} {x : Operand} (ho : op.op = .load ty x)
    (hx : a.eval x = .pointer (some ⟨g, 0, none⟩)) (hr : ∀ (W : World), W.rangeAt g 0 cs.toList → (Instr.loadAt ty (.pointer (some ⟨g, 0, none⟩))).run Tryz.prog W = .ok (.agg cs) W) : (execOp a.eval op).run Tryz.prog V = .ok (.value (.agg cs)) V := by
  have := hr V (h.at_ i g cs hi).2.range
  unfold execOp
  simp only [ho, hx, this, Sem.run_bind, Sem.run_pure, Result.andThen_ok]
theorem Sch.offN {ops : Array Oper} {S : World → Prop} {Q : Exit → Act → World → Prop} {tl : List Nat} {i n : Nat} {o : Oper} {r : List (Nat × Nat)} {a a' : Act} {w : World} (ho : ops[i]? = some o) (hN : o.dst = some n) (hg : Region.wanted o (yielded ops a.tmps) = false) (ha : a.put (some n) undef = a')
    (h : Sch Tryz.prog ops S Q tl r a' w) : Sch Tryz.prog ops S Q tl ((i, 0) :: r) a w := by
  subst ha
  exact ⟨o, undef, ho, .inr ⟨hg, rfl⟩, by rw [hN]; exact h⟩
theorem Sch.st {w0 V : World} {bs : List (Nat × Array Value)} {ops : Array Oper} {S : World → Prop} {Q : Exit → Act → World → Prop} {tl : List Nat} {i m : Nat} {o : Oper} {r : List (Nat × Nat)} {a : Act} (h : Env w0 V bs) (j : Nat) {g : Nat} {cs : Array Value} (hj : bs[j]? = some (g, cs)) (ho : ops[i]? = some o) (hN : o.dst = none) (hg : Region.wanted o (yielded ops a.tmps) = true)
    (ty : TypeId) (x y : Operand) (hop : o.op = .store ty x y) (cs' : Array Value) (hx : a.eval x = .pointer (some ⟨g, 0, none⟩)) (hy : a.eval y = .agg cs') (hsz : cs'.size = cs.size) (hi : (Tryz.prog.info? ty).map (·.size) = some cs'.size) (hall : cs'.all (·.oneCell') = true)
    (k : ∀ V', Env w0 V' (bs.set j (g, cs')) → S V' ∧ Sch Tryz.prog ops S Q tl r a V') : Sch Tryz.prog ops S Q tl ((i, m + 2) :: r) a V :=
  Sch.bagg (h.at_ j g cs hj).2 ho hN hg ty x y hop cs' hx hy hsz hi hall (fun V' hk hc => k V' (h.put hj hk hc))
theorem lnext {W : World} {A : Option Addr} {gl : List Int} {cp : Nat} {ρ : Rg} {peek : Int} (hG : ∀ V, Below W.heap.size W V → Kd.C (Kd.int .u8) V A gl.length gl) (hcp : gl.length ≤ cp) (hr : ∀ x ∈ gl, 0 ≤ x ∧ x < 256) (ht : Table W) (i0 : 0 ≤ ρ.im) (i2 : ρ.im ≤ 2) {c : To} (hc : nx ρ peek gl = c) :
    Calls Tryz.prog 27 #[.agg ρ.vals, .int .u8 peek, .slice A gl.length cp] W fun e V => e = .returned (nextV c) ∧ Below W.heap.size W V := by
  have hE := Aside0.mk (Env.nil W)
  have hG := Aside0.mk hG
  have ht := Aside0.mk ht
  have hr := Aside0.mk hr
  have hc := Aside0.mk hc
  have i0 := Aside0.mk i0
  have i2 := Aside0.mk i2
  obtain ⟨ck, ca, cv, ct, cs, cd, ce⟩ := c
  cases cd <;> (
  go_enter Tryz.func27, Tryz.ntmps27
  go_wp2_with (first | ((with_reducible refine gate_box 24 ?_); refine wpList_new hE.out rfl (Rg.vals _) 24 rfl ?_; intro V g hE'; replace hE := Aside0.mk hE'; clear hE') | ((with_reducible refine gate_alloc 56 ?_); refine wpList_new hE.out rfl (reqC 0 0 0 0) 56 (by kernel_rfl) ?_; intro V g hE'; replace hE := Aside0.mk hE'; clear hE') | ((with_reducible refine gate_alloc 24 ?_); refine wpList_new hE.out rfl (zeroRg.vals) 24 (by kernel_rfl) ?_; intro V g hE'; replace hE := Aside0.mk hE'; clear hE') | ((with_reducible refine gate_load 24 ?_); (try refine gate_guard (by rfl) ?_); (first | refine wpList_ld hE.out rfl 0 rfl 24 _ rfl rfl (ld24 _ _) ?_ | refine wpList_ld hE.out rfl 1 rfl 24 _ rfl rfl (ld24 _ _) ?_ | refine wpList_ld hE.out rfl 2 rfl 24 _ rfl rfl (ld24 _ _) ?_ | refine wpList_ld hE.out rfl 3 rfl 24 _ rfl rfl (ld24 _ _) ?_ | refine wpList_ld hE.out rfl 4 rfl 24 _ rfl rfl (ld24 _ _) ?_)) | (go_at_call 29; refine (nextAll (fun V hb => hG.out V (hE.out.b.trans (hb.mono hE.out.size))) hcp hr.out (env_tab hE.out ht.out) i0.out i2.out).mono ?_; rintro e V2 ⟨rfl, hb⟩; have hc2 := hc.out; unfold nx at hc2; rw [hc2]; clear hc2; replace hE := Aside0.mk (hE.out.under hb); clear hb; dsimp only [To.val]) | ((with_reducible refine gate_store 56 ?_); (first | refine wpList_st hE.out rfl 0 rfl 56 _ _ rfl _ rfl rfl rfl (by kernel_rfl) (reqC_one _ _ _ _) ?_ | refine wpList_st hE.out rfl 1 rfl 56 _ _ rfl _ rfl rfl rfl (by kernel_rfl) (reqC_one _ _ _ _) ?_ | refine wpList_st hE.out rfl 2 rfl 56 _ _ rfl _ rfl rfl rfl (by kernel_rfl) (reqC_one _ _ _ _) ?_); intro V hE'; (try dsimp only [List.set_cons_zero, List.set_cons_succ] at hE'); replace hE := Aside0.mk hE'; clear hE') | ((with_reducible refine gate_store 24 ?_); (first | refine wpList_st hE.out rfl 0 rfl 24 _ _ rfl _ rfl rfl rfl (by kernel_rfl) (vals_one _) ?_ | refine wpList_st hE.out rfl 1 rfl 24 _ _ rfl _ rfl rfl rfl (by kernel_rfl) (vals_one _) ?_ | refine wpList_st hE.out rfl 2 rfl 24 _ _ rfl _ rfl rfl rfl (by kernel_rfl) (vals_one _) ?_); intro V hE'; (try dsimp only [List.set_cons_zero, List.set_cons_succ] at hE'); replace hE := Aside0.mk hE'; clear hE') | ((with_reducible refine gate_region 2 ?_); (refine region_sch (fun V => Env W V [_, _]) [(2, 0), (3, 0), (4, 0), (5, 0), (6, 0), (0, 1), (1, 1), (7, 2)] [8, 9] [8, 9] 10 (by kernel_rfl) rfl rfl (by kernel_rfl) (by intro c a d v w h; cases d <;> exact h) ((hE.out.drewN 1).two (i := 0) (j := 1) rfl rfl (by decide)) ?_); replace hE := Aside0.mk (hE.out.drewN 1); have hS0 := hE.out.two (i := 0) (j := 1) rfl rfl (by decide); (repeat ((first | (refine Sch.pureN (v := ?_) (a' := ?_) rfl rfl (by rfl) ?_ ?_ ?_; rotate_left 2; (· (intro w'; go_simp <;> with_reducible rfl))) | (refine Sch.offN (a' := ?_) rfl rfl (by rfl) ?_ ?_; rotate_left) | (first | (refine Sch.takeN (a' := ?_) rfl rfl (by rfl) hS0 (fun w' hS' => hS'.run 0 rfl rfl rfl (ld24 _ _)) ?_ ?_; rotate_left) | (refine Sch.takeN (a' := ?_) rfl rfl (by rfl) hS0 (fun w' hS' => hS'.run 1 rfl rfl rfl (ld24 _ _)) ?_ ?_; rotate_left)) | (first | (refine Sch.takeN (a' := ?_) rfl rfl (by rfl) hS0 (fun w' hS' => hS'.run 0 rfl rfl rfl (ld56 _ _ _ _ _)) ?_ ?_; rotate_left) | (refine Sch.takeN (a' := ?_) rfl rfl (by rfl) hS0 (fun w' hS' => hS'.run 1 rfl rfl rfl (ld56 _ _ _ _ _)) ?_ ?_; rotate_left))); (· (simp only [aput] <;> rfl)))); (refine Sch.st hE.out 3 rfl rfl rfl (by rfl) 56 _ _ rfl _ rfl rfl rfl (by kernel_rfl) (reqC_one _ _ _ _) ?_); intro V hE'; (try dsimp only [List.set_cons_zero, List.set_cons_succ] at hE'); replace hE := Aside0.mk hE'; clear hE'; refine ⟨hE.out.two (i := 0) (j := 1) rfl rfl (by decide), ?_⟩; (refine Sch.tail 8 2 rfl rfl ?_; simp only [List.drop_succ_cons, List.drop_zero, List.drop_nil])))
  have r1 := run_loadVar_mid (P := Tryz.prog) _ _ 0 56 (reqC _ _ _ _).toList _ (hE.out.at_ 3 _ _ rfl).2.range Tryz.underlying56 rfl info56
  have r2 := run_loadVar_mid (P := Tryz.prog) _ _ 0 24 (Rg.vals _).toList _ (hE.out.at_ 2 _ _ rfl).2.range Tryz.underlying24 rfl info24
  refine bodyPost_ret (v := nextV _) ?_ rfl ⟨rfl, hE.out.b⟩
  simp [results, Tryz.results27, asAddr, r1, r2, nextV])
theorem gate_bld (ty : TypeId) {P : Program} {ops : Array Oper} {Q : Exit → Act → World → Prop} {W : World} {rest : List Oper} {d xs t p af gd a} (h : wpList P ops Q ({ dst := d, op := .build ty xs, type := t, pos := p, after := af, guard := gd } :: rest) a W) : wpList P ops Q ({ dst := d, op := .build ty xs, type := t, pos := p, after := af, guard := gd } :: rest) a W := h
theorem wpList_bld24 {ops : Array Oper} {rest : List Oper} {op : Oper} {a : Act} {Q : Exit → Act → World → Prop} {V : World} (hgd : op.guard = none) {ty : TypeId} {parts : Array (Nat × Operand)} (ho : op.op = .build ty parts) (v : Value) (hb : (execOp a.eval op).run Tryz.prog V = .ok (.value v) V)
    (k : wpList Tryz.prog ops Q rest (a.put op.dst v) V) : wpList Tryz.prog ops Q (op :: rest) a V := by
  refine wpList_plain hgd fun _ hK => ?_
  unfold Oper.wp
  simp only [hb]
  exact hK _ _ k
theorem lnextE {w0 V : World} {bs : List (Nat × Array Value)} (h : Env w0 V bs) (ht : Table w0) (i : Nat) {g : Nat} (l : List Int) {n : Nat} (hi : bs[i]? = some (g, bytesC l)) (hn : l.length = n) (hr : ∀ x ∈ l, 0 ≤ x ∧ x < 256) (hm : l.length ≤ 1000) {ρ : Rg} {peek : Int} (i0 : 0 ≤ ρ.im) (i2 : ρ.im ≤ 2) {c : To} (hc : nx ρ peek l = c) :
    Calls Tryz.prog 27 #[.agg ρ.vals, .int .u8 peek, .slice (some ⟨g, 0, none⟩) n n] V fun e V' => e = .returned (nextV c) ∧ Env w0 V' bs := by
  subst hn
  exact (lnext (fun V' hb => blk_bytes ((h.under hb).at_ i g _ hi).2 (by omega)) (Nat.le_refl _) hr (env_tab h ht) i0 i2 hc).mono fun e V' hh => ⟨hh.1, h.under hh.2⟩
theorem lnextN {w0 V : World} {bs : List (Nat × Array Value)} (h : Env w0 V bs) (ht : Table w0) {ρ : Rg} {peek : Int} (i0 : 0 ≤ ρ.im) (i2 : ρ.im ≤ 2) {c : To} (hc : nx ρ peek [] = c) :
    Calls Tryz.prog 27 #[.agg ρ.vals, .int .u8 peek, .slice none 0 0] V fun e V' => e = .returned (nextV c) ∧ Env w0 V' bs :=
  (lnext (gl := []) (fun V' hb => ⟨rfl, by decide, fun h => absurd h (by decide)⟩) (Nat.le_refl _) (fun x hx => by cases hx) (env_tab h ht) i0 i2 hc).mono fun e V' hh => ⟨hh.1, h.under hh.2⟩
def resetR : Rg := { a := 255, f := 255, b := 0, c := 0, d := 0, e := 0, h := 0, l := 0, i := 0, r := 0, ix := 0, iy := 0, sp := 65535, pc := 0, wz := 0, af := 65535, bc := 0, de := 0, hl := 0, ff1 := false, ff2 := false, im := 0, halt := false, late := false }
theorem lreset (W : World) : Calls Tryz.prog 26 #[] W fun e V => e = .returned (.agg resetR.vals) ∧ Below W.heap.size W V := by
  have hE := Aside0.mk (Env.nil W)
  go_enter Tryz.func26, Tryz.ntmps26
  go_wp2_with (first | ((with_reducible refine gate_alloc 24 ?_); refine wpList_new hE.out rfl (zeroRg.vals) 24 (by kernel_rfl) ?_; intro V g hE'; replace hE := Aside0.mk hE'; clear hE') | ((with_reducible refine gate_bld 24 ?_); refine wpList_bld24 rfl rfl (.agg resetR.vals) (by kernel_rfl) ?_) | ((with_reducible refine gate_store 24 ?_); refine wpList_st hE.out rfl 0 rfl 24 _ _ rfl _ rfl rfl rfl (by kernel_rfl) (vals_one _) ?_; intro V hE'; (try dsimp only [List.set_cons_zero, List.set_cons_succ] at hE'); replace hE := Aside0.mk hE'; clear hE'))
  have r2 := run_loadVar_mid (P := Tryz.prog) _ _ 0 24 (Rg.vals _).toList _ (hE.out.at_ 0 _ _ rfl).2.range Tryz.underlying24 rfl info24
  refine bodyPost_ret (v := .agg resetR.vals) ?_ rfl ⟨rfl, hE.out.b⟩
  simp [results, Tryz.results26, asAddr, r2, Act.put]
end Go.Proofs.YtnelghpendfdmaaGreatDoor.KRow
