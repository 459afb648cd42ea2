/-
  PROVED: pendulumlaw11.StepBlocks answers true.
-/
import Derived.Test.YtnelghpendfdmaaGreatDoorKBp
import Derived.Test.YtnelghpendfdmaaGreatDoorKLe
import Derived.Test.YtnelghpendfdmaaGreatDoorKOpen
namespace Go.Proofs.YtnelghpendfdmaaGreatDoor.KRow
open Go Go.RowKit Go.Proofs.YtnelghpendfdmaaGreatDoorW.PrintWords Go.Proofs.YtnelghpendfdmaaGreatDoorW.PrintLast Go.Proofs.YtnelghpendfdmaaGreatDoorW.PrintMore
open Go.Proofs.YtnelghpendfdmaaGreatDoor.HFun
set_option linter.unusedVariables false
set_option linter.unusedSimpArgs false
theorem info5i : ∃ i, Tryz.prog.info? 5 = some i ∧ i.zero = some (.int .u8 0) ∧ i.size = 1 ∧ i.bytes = 1 := by
  have h := info5c
  cases hi : Tryz.prog.info? 5 with
  | none => rw [hi] at h; cases h
  | some i =>
    rw [hi] at h
    simp only [Option.map_some, Option.some.injEq, Prod.mk.injEq] at h
    exact ⟨i, rfl, h.1, h.2.1, h.2.2⟩
theorem Env.one {w0 V : World} {bs : List (Nat × Array Value)} (h : Env w0 V bs) {i : Nat} {x : Nat × Array Value} (hi : bs[i]? = some x) : Env w0 V [x] := by
  refine ⟨h.b, fun k g cs hk => ?_, fun a b g c1 c2 ha hb => ?_⟩
  · match k, hk with
    | 0, hk => obtain rfl : x = (g, cs) := by simpa using hk
               exact h.at_ i g cs hi
  · match a, b, ha, hb with
    | 0, 0, _, _ => rfl
theorem Sch.st1 {w0 V : World} {bs : List (Nat × Array Value)} {ops : Array Oper} {S : World → Prop} {Q : Exit → Act → World → Prop} {tl : List Nat} {i m : Nat} {o : Oper} {r : List (Nat × Nat)} {a : Act} (h : Env w0 V bs) (j : Nat) {g : Nat} {cs : Array Value} (hj : bs[j]? = some (g, cs)) (ho : ops[i]? = some o) (hN : o.dst = none) (hg : Region.wanted o (yielded ops a.tmps) = true)
    (ty : TypeId) (x y : Operand) (hop : o.op = .store ty x y) (k0 : Nat) (v : Value) (hx : a.eval x = .pointer (some ⟨g, k0, none⟩)) (hy : a.eval y = v) (hinf : (Tryz.prog.info? ty).map (·.size) = some 1) (hvc : v.cells = #[v]) (h1 : v.oneCell' = true) (hlt : k0 < cs.size)
    (k : ∀ V', Env w0 V' (bs.set j (g, cs.setIfInBounds k0 v)) → S V' ∧ Sch Tryz.prog ops S Q tl r a V') : Sch Tryz.prog ops S Q tl ((i, m + 2) :: r) a V := by
  have hB := (h.at_ j g cs hj).2
  obtain ⟨old, hold⟩ : ∃ u, cs.toList[k0]? = some u := ⟨_, List.getElem?_eq_getElem (by simpa using hlt)⟩
  have hrun := run_storeVar_one (W := V) (g := g) hinf v k0 hvc h1 (by rw [hB.cell _ _ hold]; rfl) (hB.frz _)
  have hkp := (Kp.refl g V).setCell k0 v
  have hk := k _ (h.put hj hkp ⟨Nat.lt_of_lt_of_le hB.lt hkp.size, fun k u hu => ?_, fun k => (World.frozen?_setCell _ _ _ _).trans (hB.frz k)⟩)
  · refine Sch.skip ho hN hg ?_ hk.1 hk.2
    unfold execOp
    simp only [hop, hx, hy, Instr.storeAt, Instr.sureAddr, Sem.run_bind, Sem.run_pure, Result.andThen_ok, hrun]
  · rw [Array.toList_setIfInBounds, List.getElem?_set] at hu
    by_cases e : k0 = k
    · subst e
      have hl : k0 < cs.toList.length := by simpa using hlt
      simp only [if_true, hl, Option.some.injEq] at hu
      subst hu
      exact World.cell?_setCell_same V _ _ (hB.cell k0 _ hold)
    · rw [if_neg e] at hu
      exact (World.cell?_setCell_other V _ _ _ (by simp [e])).trans (hB.cell k u hu)
theorem blk_own8 {w : World} {g : Nat} {cur : Array Value} {xs : List Int} {n : Nat} (hh : w.heap[g]? = some (.cells cur 5 (0, 0))) (ht : cur.toList.take (n * 1) = xs.map (Value.int .u8)) : BlkAt w g (bytesC xs) := by
  refine ⟨(Array.getElem?_eq_some_iff.1 hh).1, fun k v hk => ?_, fun k => ?_⟩
  · have hk' : (xs.map (Value.int .u8))[k]? = some v := by simpa [bytesC] using hk
    rw [← ht, List.getElem?_take] at hk'
    have hk2 : cur[k]? = some v := by
      split at hk'
      · simpa using hk'
      · cases hk'
    simp only [World.cell?, hh]
    simpa using hk2
  · simp only [World.frozen?, hh]
    simp
theorem wpList_appB {w0 V : World} {bs : List (Nat × Array Value)} {ops : Array Oper} {rest : List Oper} {op : Oper} {a : Act} {Q : Exit → Act → World → Prop} (h : Env w0 V bs) (i : Nat) {g : Nat} (xs : List Int) (n : Nat) (hi : bs[i]? = some (g, bytesC xs)) (hn : xs.length = n) {A : Option Addr} {l : List Int} {cp : Nat}
    (hC : ∀ V', Below w0.heap.size w0 V' → Kd.C (Kd.int .u8) V' A l.length l) (hl : 0 < l.length) (hs0 : n + l.length ≤ 1000)
    (hgd : op.guard = none) (s y : Operand) (ho : op.op = .call { callee := .builtin .append, args := #[s, y], argTypes := #[25, 25] }) (hs : a.eval s = .slice (some ⟨g, 0, none⟩) n n) (hy : a.eval y = .slice A l.length cp)
    (k : ∀ V' g2 c, Env w0 V' ((g2, bytesC (xs ++ l)) :: bs) → (xs ++ l).length ≤ c → wpList Tryz.prog ops Q rest (a.put op.dst (.slice (some ⟨g2, 0, none⟩) (xs ++ l).length c)) V') : wpList Tryz.prog ops Q (op :: rest) a V := by
  obtain ⟨inf, h2, h3, h4, h5⟩ := info5i
  have had : ∀ (g k : Nat), (⟨g, 0, none⟩ : Addr).add k = ⟨g, k, none⟩ := fun g k => by
    by_cases e : k = 0
    · subst e; rfl
    · simp [Addr.add]; omega
  have hC := hC V h.b
  obtain ⟨ad, eA, _⟩ := Kd.at_int hC 0 (by omega) (by omega)
  subst eA
  refine wpList_append_grows V hgd s y 25 ho 5 inf _ 1 1 Tryz.underlying25 h2 h3 h4 h5 rfl (by decide) (some ⟨g, 0, none⟩) n n (xs.map (Value.int .u8)) hs (fun e => by cases e) (by simp [hn]) (fun b e j' u hu => ?_) ad l.length cp (l.map (Value.int .u8)) hy (by simp) (fun j' u hu => ?_) (fun u hu => by obtain ⟨x, _, rfl⟩ := List.mem_map.1 hu; rfl) (by omega) (by simp only [maxLen]; omega) (by omega) ?_
  · cases e
    rw [had]
    exact (h.at_ i _ _ hi).2.cell j' u (by simpa [bytesC] using hu)
  · have hj : j' < l.length := by
      have := (List.getElem?_eq_some_iff.1 hu).1
      simpa using this
    obtain ⟨ad', e', hc⟩ := Kd.at_int hC (j' : Int) (by omega) (by omega)
    cases e'
    have hv : u = .int .u8 (rd l (j' : Int)) := by
      have : (l.map (Value.int .u8))[j']? = some (.int .u8 (l[j'])) := by simp [hj]
      rw [this] at hu
      simp [rd, hj] at hu ⊢
      exact hu.symm
    rw [hv]
    simpa using hc
  · rintro v' w' ⟨hlen, hc⟩ hg
    rcases hc with ⟨_, e2⟩ | ⟨g2, cap, cur, rfl, hge, hh, hle, _, hsz, ht⟩
    · omega
    · have hlx : (xs ++ l).length = n + l.length := by rw [List.length_append, hn]
      have hk := k w' g2 cap (h.join ⟨hg.os, hg.tape, hg.output, hg.size, fun q hq => hg.block q hq (by simp)⟩ hge (blk_own8 (n := n + l.length) hh (by rw [ht, List.map_append]))) (by omega)
      rw [hlx] at hk
      exact hk
theorem wpList_appB0 {V : World} {ops : Array Oper} {rest : List Oper} {op : Oper} {a : Act} {Q : Exit → Act → World → Prop} {g n cp : Nat} {A : Option Addr}
    (hgd : op.guard = none) (s y : Operand) (ho : op.op = .call { callee := .builtin .append, args := #[s, y], argTypes := #[25, 25] }) (hs : a.eval s = .slice (some ⟨g, 0, none⟩) n n) (hy : a.eval y = .slice A 0 cp)
    (k : wpList Tryz.prog ops Q rest (a.put op.dst (.slice (some ⟨g, 0, none⟩) n n)) V) : wpList Tryz.prog ops Q (op :: rest) a V := by
  obtain ⟨inf, h2, h3, h4, h5⟩ := info5i
  have hu := Tryz.underlying25
  have hrun : (Builtin.append_ #[25, 25] op.type #[.slice (some ⟨g, 0, none⟩) n n, .slice A 0 cp]).run Tryz.prog V = .ok (.slice (some ⟨g, 0, none⟩) n n) V := by
    cases A <;> simp [Builtin.append_, run_underlying hu, sizeOf, typeInfo, h2, Builtin.lenOf, Builtin.firstCells, storeCells, loadCells, loadCellsFrom]
  refine wpList_plain hgd fun K hK' => ?_
  unfold Oper.wp
  simp [execOp, ho, resolve, invoke, builtin, hs, hy, hrun, Result.andThen]
  exact hK' _ _ k
theorem reqs_same (xs : List S56) (h : xs.length ≤ 5) : pendulumkit_Reqs.f 8 xs xs = some true := by
  match xs, h with
  | [], _ => simp [pendulumkit_Reqs.f, pendulumkit_Reqs.l0]
  | [a], _ => simp [pendulumkit_Reqs.f, pendulumkit_Reqs.l0, rd_T56, wrap64]
  | [a, b], _ => simp [pendulumkit_Reqs.f, pendulumkit_Reqs.l0, rd_T56, wrap64]
  | [a, b, c], _ => simp [pendulumkit_Reqs.f, pendulumkit_Reqs.l0, rd_T56, wrap64]
  | [a, b, c, d], _ => simp [pendulumkit_Reqs.f, pendulumkit_Reqs.l0, rd_T56, wrap64]
  | [a, b, c, d, e], _ => simp [pendulumkit_Reqs.f, pendulumkit_Reqs.l0, rd_T56, wrap64]
theorem blk_pre {V : World} {g : Nat} {P X : List S56} (h : BlkAt V g (reqsC (P ++ X))) : BlkAt V g (reqsC P) :=
  ⟨h.lt, fun k v hk => h.cell k v (by
    have hk' : (reqsL P)[k]? = some v := by simpa [reqsC] using hk
    have h1 : k < (reqsL P).length := (List.getElem?_eq_some_iff.1 hk').1
    show (reqsL (P ++ X))[k]? = some v
    rw [reqsL_app, List.getElem?_append_left h1]
    exact hk'), h.frz⟩
theorem lreqsP {w0 V : World} {bs : List (Nat × Array Value)} (h : Env w0 V bs) (P X Q : List S56) (hQ : Q = P ++ X) (i j : Nat) {g g' c c' : Nat} (hi : bs[i]? = some (g, reqsC P)) (hj : bs[j]? = some (g', reqsC Q)) (hc : P.length ≤ c) (hc' : P.length ≤ c') (hm : P.length ≤ 5) :
    Calls Tryz.prog 32 #[.slice (some ⟨g, 0, none⟩) P.length c, .slice (some ⟨g', 0, none⟩) P.length c'] V fun e V' => e = .returned (.bool true) ∧ Env w0 V' bs := by
  subst hQ
  refine (pendulumkit_Reqs.calls 8 _ _ P _ _ P true _ (blk_reqs (h.at_ i _ _ hi).2 (by omega)) hc (blk_reqs (blk_pre (h.at_ j _ _ hj).2) (by omega)) hc' (reqs_same P hm)).mono ?_
  rintro e V' ⟨rfl, hd⟩
  obtain ⟨n5, rfl⟩ := hd.out
  exact ⟨rfl, h.drewN n5⟩
theorem op_form : ∀ k : Nat, k < 8 → wrap64 (160 + 8 * ((k : Int) % 2) + wrap64 ((k : Int) / 2)) % 256 = opOf k ∧ (opOf k + 16) % 256 = opOf k + 16 ∧ 0 ≤ opOf k ∧ opOf k + 16 < 256 := by decide +kernel
theorem pick8 (w : Int) (w0 : -9223372036854775808 ≤ w) (w1 : w < 9223372036854775808) : ∃ k : Nat, k < 8 ∧ pendulumkit_Pick.f w 8 = some (k : Int) := by
  unfold pendulumkit_Pick.f
  rw [if_neg (by decide), if_neg (by decide)]
  have hb : -8 < Int.tmod w 8 ∧ Int.tmod w 8 < 8 := by
    constructor
    · have := Int.lt_tmod_of_pos w (by decide : (0 : Int) < 8); omega
    · exact Int.tmod_lt_of_pos w (by decide)
  by_cases h : Int.tmod w 8 < 0
  · rw [if_pos h]
    refine ⟨(Int.tmod w 8 + 8).toNat, by omega, ?_⟩
    rw [B.w64 (by omega) (by omega), Int.toNat_of_nonneg (by omega)]
  · rw [if_neg h]
    refine ⟨(Int.tmod w 8).toNat, by omega, ?_⟩
    rw [Int.toNat_of_nonneg (by omega)]
set_option maxHeartbeats 16000000 in
set_option maxRecDepth 100000 in
theorem lblk_bad {W : World} {A : Option Addr} {l : List Int} {cp : Nat} {ρ : Rg} {w : Int} (ht : Table W) (hbad : (decide (ρ.im < 0) || decide (ρ.im > 2)) = true) :
    Calls Tryz.prog 7 #[.agg ρ.vals, .int .i64 w, .slice A l.length cp] W fun e V => e = .returned (.bool true) ∧ Below W.heap.size W V := by
  have hE := Aside0.mk (Env.nil W)
  have ht := Aside0.mk ht
  have hc1 := Aside0.mk hbad
  clear hbad
  go_enter Tryz.func7, Tryz.ntmps7
  go_wp2_with (first | ((with_reducible refine gate_box 24 ?_); refine wpList_new hE.out rfl (Rg.vals _) 24 rfl ?_; intro V g hE'; replace hE := Aside0.mk hE'; clear hE') | (go_at_call 28; refine (llives (env_tab hE.out ht.out)).mono ?_; rintro e V2 ⟨rfl, hb⟩; replace hE := Aside0.mk (hE.out.under hb); clear hb) | (go_at_call 12; refine (lcheck8_bad ρ _ hc1.out).mono ?_; rintro e V2 ⟨rfl, hb⟩; replace hE := Aside0.mk (hE.out.under hb); clear hb) | ((with_reducible refine gate_load 24 ?_); (try refine gate_guard (by rfl) ?_); refine wpList_ld hE.out rfl 0 rfl 24 _ rfl rfl (ld24 _ _) ?_))
  go_ret
  exact ⟨rfl, hE.out.b⟩
set_option maxHeartbeats 16000000 in
set_option maxRecDepth 100000 in
theorem lblk_long {W : World} {A : Option Addr} {l : List Int} {cp : Nat} {ρ : Rg} {w : Int} (ht : Table W) (hok : (decide (ρ.im < 0) || decide (ρ.im > 2)) = false) (hl : 40 < l.length) :
    Calls Tryz.prog 7 #[.agg ρ.vals, .int .i64 w, .slice A l.length cp] W fun e V => e = .returned (.bool true) ∧ Below W.heap.size W V := by
  have hE := Aside0.mk (Env.nil W)
  have ht := Aside0.mk ht
  have hc1 := Aside0.mk hok
  have hd : decide (40 < (l.length : Int)) = true := decide_eq_true (by omega)
  clear hok hl
  go_enter Tryz.func7, Tryz.ntmps7
  go_wp2_with (first | ((with_reducible refine gate_box 24 ?_); refine wpList_new hE.out rfl (Rg.vals _) 24 rfl ?_; intro V g hE'; replace hE := Aside0.mk hE'; clear hE') | (go_at_call 28; refine (llives (env_tab hE.out ht.out)).mono ?_; rintro e V2 ⟨rfl, hb⟩; replace hE := Aside0.mk (hE.out.under hb); clear hb) | (go_at_call 12; refine (lcheck8_ok ρ _ hc1.out).mono ?_; rintro e V2 ⟨rfl, hb⟩; replace hE := Aside0.mk (hE.out.under hb); clear hb) | ((with_reducible refine gate_load 24 ?_); (try refine gate_guard (by rfl) ?_); refine wpList_ld hE.out rfl 0 rfl 24 _ rfl rfl (ld24 _ _) ?_))
  go_ret
  exact ⟨rfl, hE.out.b⟩
set_option maxHeartbeats 16000000 in
set_option maxRecDepth 100000 in
theorem lblk_halt {W : World} {A : Option Addr} {l : List Int} {cp : Nat} {ρ : Rg} {w : Int} (ht : Table W) (hok : (decide (ρ.im < 0) || decide (ρ.im > 2)) = false) (hl : l.length ≤ 40) (hh : ρ.halt = true) :
    Calls Tryz.prog 7 #[.agg ρ.vals, .int .i64 w, .slice A l.length cp] W fun e V => e = .returned (.bool true) ∧ Below W.heap.size W V := by
  have hE := Aside0.mk (Env.nil W)
  have ht := Aside0.mk ht
  have hh := Aside0.mk hh
  have hc1 := Aside0.mk hok
  have hd : decide (40 < (l.length : Int)) = false := decide_eq_false (by omega)
  clear hok hl
  go_enter Tryz.func7, Tryz.ntmps7
  go_wp2_with (first | ((with_reducible refine gate_box 24 ?_); refine wpList_new hE.out rfl (Rg.vals _) 24 rfl ?_; intro V g hE'; replace hE := Aside0.mk hE'; clear hE') | (go_at_call 28; refine (llives (env_tab hE.out ht.out)).mono ?_; rintro e V2 ⟨rfl, hb⟩; replace hE := Aside0.mk (hE.out.under hb); clear hb) | (go_at_call 12; refine (lcheck8_ok ρ _ hc1.out).mono ?_; rintro e V2 ⟨rfl, hb⟩; replace hE := Aside0.mk (hE.out.under hb); clear hb; have q22 := (hE.out.at_ 0 _ _ rfl).2.cell 22 _ rfl; rw [hh.out] at q22) | ((with_reducible refine gate_load 24 ?_); (try refine gate_guard (by rfl) ?_); refine wpList_ld hE.out rfl 0 rfl 24 _ rfl rfl (ld24 _ _) ?_))
  go_ret
  exact ⟨rfl, hE.out.b⟩
set_option maxHeartbeats 16000000 in
set_option maxRecDepth 100000 in
theorem lblk_main {W : World} {A : Option Addr} {l : List Int} {cp : Nat} {ρ : Rg} {w : Int} {k : Nat} (hk : k < 8) (hpk : pendulumkit_Pick.f w 8 = some (k : Int)) (hG : ∀ V, Below W.heap.size W V → Kd.C (Kd.int .u8) V A l.length l) (hcp : l.length ≤ cp) (hlr : ∀ x ∈ l, 0 ≤ x ∧ x < 256) (ht : Table W) (i0 : 0 ≤ ρ.im) (i2 : ρ.im ≤ 2) (hok : (decide (ρ.im < 0) || decide (ρ.im > 2)) = false) (hl : l.length ≤ 40) (hl0 : 0 < l.length) (hh : ρ.halt = false) (p0 : 0 ≤ ρ.pc) (p1 : ρ.pc < 65536) {P Q : List S56} {G G' : List Int} {S S' : Rg} (hA : rowL (nx ρ 0) (237 :: opOf k :: l) 11 [] [] = some (P, G, S)) (hB : rowL (nx ρ 0) (237 :: (opOf k + 16) :: l) 11 [] [] = some (Q, G', S')) (hP4 : 4 ≤ P.length) (hP5 : P.length ≤ 5) {X : List S56} (hQe : Q = P ++ X) (hX : X.length ≤ 1) (hSp : S.pc = inc16 (inc16 ρ.pc)) (hcase : (X = [] ∧ S' = S) ∨ (X = [⟨6, 0, 0, 5⟩] ∧ S' = { S with pc := sub2 S.pc, wz := inc16 (sub2 S.pc) })) :
    Calls Tryz.prog 7 #[.agg ρ.vals, .int .i64 w, .slice A l.length cp] W fun e V => e = .returned (.bool true) ∧ Below W.heap.size W V := by
  have e0 : (S.pc == IntKind.u16.wrap (ρ.pc + 2)) = true := by rw [hSp, beq_iff_eq]; unfold inc16; simp only [B.wu16]; omega
  have e1 : sub2 S.pc = ρ.pc := by rw [hSp]; unfold sub2 inc16; simp only [B.wu16]; omega
  have e2 : inc16 (sub2 S.pc) = IntKind.u16.wrap (ρ.pc + 1) := by rw [e1]; rfl
  clear hSp
  have e1 := Aside0.mk e1
  have e2 := Aside0.mk e2
  have hcase := Aside0.mk hcase
  have hE := Aside0.mk (Env.nil W)
  have ht := Aside0.mk ht
  have hh := Aside0.mk hh
  have hc1 := Aside0.mk hok
  have hG := Aside0.mk hG
  have hcp := Aside0.mk hcp
  have hlr := Aside0.mk hlr
  have hpk := Aside0.mk hpk
  have hl0 := Aside0.mk hl0
  have hA := Aside0.mk hA
  have hB := Aside0.mk hB
  have hP : Aside0 (P ≠ []) := ⟨fun e => by rw [e] at hP4; simp at hP4⟩
  have hQ : Aside0 (Q ≠ []) := ⟨fun e => by rw [hQe] at e; exact hP.out (List.append_eq_nil_iff.1 e).1⟩
  have hQl0 : Q.length = P.length + X.length := by rw [hQe, List.length_append]
  have f1 : decide ((P.length : Int) < 4) = false := decide_eq_false (by omega)
  have f2 : decide ((Q.length : Int) < (P.length : Int)) = false := decide_eq_false (by omega)
  have hQl := Aside0.mk hQl0
  clear hQl0
  have hQe := Aside0.mk hQe
  have hP4 := Aside0.mk hP4
  have hP5 := Aside0.mk hP5
  have hX := Aside0.mk hX
  have hl4 := Aside0.mk hl
  have hk' := Aside0.mk hk
  replace i0 := Aside0.mk i0
  replace i2 := Aside0.mk i2
  replace p0 := Aside0.mk p0
  replace p1 := Aside0.mk p1
  have hd : decide (40 < (l.length : Int)) = false := decide_eq_false (by omega)
  have htm : Int.tmod (k : Int) 2 = (k : Int) % 2 := Int.tmod_eq_emod_of_nonneg (by omega)
  have htd : Int.tdiv (k : Int) 2 = (k : Int) / 2 := Int.tdiv_eq_ediv_of_nonneg (by omega)
  clear hok hl hk
  go_enter Tryz.func7, Tryz.ntmps7
  go_upto_region 6 with (first | ((with_reducible refine gate_box 24 ?_); refine wpList_new hE.out rfl (Rg.vals _) 24 rfl ?_; intro V g hE'; replace hE := Aside0.mk hE'; clear hE') | (go_at_call 28; refine (llives (env_tab hE.out ht.out)).mono ?_; rintro e V2 ⟨rfl, hb⟩; replace hE := Aside0.mk (hE.out.under hb); clear hb) | (go_at_call 12; refine (lcheck8_ok ρ _ hc1.out).mono ?_; rintro e V2 ⟨rfl, hb⟩; replace hE := Aside0.mk (hE.out.under hb); clear hb; have q22 := (hE.out.at_ 0 _ _ rfl).2.cell 22 _ rfl; rw [hh.out] at q22) | ((with_reducible refine gate_load 24 ?_); (try refine gate_guard (by rfl) ?_); refine wpList_ld hE.out rfl 0 rfl 24 _ rfl rfl (ld24 _ _) ?_) | (go_at_call 30; refine (pendulumkit_Pick.calls _ _ _ _ hpk.out).mono ?_; rintro e V3 ⟨rfl, hd5⟩; obtain ⟨n5, rfl⟩ := hd5.out; replace hE := Aside0.mk (hE.out.drewN n5)))
  go_upto_region 7 with fail
  rw [(op_form k hk'.out).1]
  go_upto_region 8 with (first | ((with_reducible refine gate_bsl 25 ?_); refine wpList_bsl hE.out rfl (bytesC [237, opOf k]) 5 2 (by kernel_rfl) ?_; intro V g hE'; replace hE := Aside0.mk hE'; clear hE') | ((with_reducible refine gate_builtin (b := .append) (xs := #[.tmp 44, .tmp 45]) rfl ?_); at_builtin; refine wpList_appB hE.out 0 [237, opOf k] 2 rfl rfl hG.out hl0.out (by have := hl4.out; omega) rfl (.tmp 44) (.tmp 45) rfl rfl rfl ?_; intro V ga ca hE' hca; replace hE := Aside0.mk hE'; replace hca := Aside0.mk hca; clear hE'))
  go_upto_region 9 with (first | ((with_reducible refine gate_bsl 25 ?_); refine wpList_bsl hE.out rfl (bytesC [237, (opOf k + 16) % 256]) 5 2 (by kernel_rfl) ?_; intro V g hE'; replace hE := Aside0.mk hE'; clear hE'; rw [(op_form k hk'.out).2.1] at hE) | ((with_reducible refine gate_builtin (b := .append) (xs := #[.tmp 49, .tmp 50]) rfl ?_); at_builtin; refine wpList_appB hE.out 0 [237, opOf k + 16] 2 rfl rfl hG.out hl0.out (by have := hl4.out; omega) rfl (.tmp 49) (.tmp 50) rfl rfl rfl ?_; intro V gb cb hE' hcb; replace hE := Aside0.mk hE'; replace hcb := Aside0.mk hcb; clear hE'))
  go_upto_region 10 with (first | ((with_reducible refine gate_load 24 ?_); (try refine gate_guard (by rfl) ?_); (first | refine wpList_ld hE.out rfl 0 rfl 24 _ rfl rfl (ld24 _ _) ?_ | refine wpList_ld hE.out rfl 1 rfl 24 _ rfl rfl (ld24 _ _) ?_ | refine wpList_ld hE.out rfl 2 rfl 24 _ rfl rfl (ld24 _ _) ?_ | refine wpList_ld hE.out rfl 3 rfl 24 _ rfl rfl (ld24 _ _) ?_ | refine wpList_ld hE.out rfl 4 rfl 24 _ rfl rfl (ld24 _ _) ?_ | refine wpList_ld hE.out rfl 5 rfl 24 _ rfl rfl (ld24 _ _) ?_)) | (go_at_call 31; refine (lrow0 (ρ := ρ) (peek := 0) (l := [237, opOf k] ++ l) (cp := ca) (fun V' hb => blk_bytes ((hE.out.under hb).at_ 2 _ _ rfl).2 (by have := hl4.out; simp; omega)) hca.out (by intro x hx; have := op_form k hk'.out; rcases List.mem_append.1 hx with h | h; (simp at h; omega); (exact hlr.out x h)) (env_tab hE.out ht.out) i0.out i2.out hA.out).mono ?_; rintro e V2 ⟨hb, A1, c6, A6, c7, rfl, hlc, hA1, hq, hg⟩; obtain ⟨gp, rfl, hge, hB1⟩ := hA1 hP.out; replace hE := Aside0.mk (hE.out.join hb hge hB1); have hlcP := Aside0.mk hlc; clear hlc hg hA1 hq hB1 hge hb) | ((with_reducible refine gate_alloc 24 ?_); refine wpList_new hE.out rfl (zeroRg.vals) 24 (by kernel_rfl) ?_; intro V g hE'; replace hE := Aside0.mk hE'; clear hE') | ((with_reducible refine gate_store 24 ?_); refine wpList_st hE.out rfl 0 rfl 24 _ _ rfl _ rfl rfl rfl (by kernel_rfl) (vals_one _) ?_; intro V hE'; (try dsimp only [List.set_cons_zero, List.set_cons_succ] at hE'); replace hE := Aside0.mk hE'; clear hE'))
  go_upto_region 11 with (first | ((with_reducible refine gate_load 24 ?_); (try refine gate_guard (by rfl) ?_); (first | refine wpList_ld hE.out rfl 0 rfl 24 _ rfl rfl (ld24 _ _) ?_ | refine wpList_ld hE.out rfl 1 rfl 24 _ rfl rfl (ld24 _ _) ?_ | refine wpList_ld hE.out rfl 2 rfl 24 _ rfl rfl (ld24 _ _) ?_ | refine wpList_ld hE.out rfl 3 rfl 24 _ rfl rfl (ld24 _ _) ?_ | refine wpList_ld hE.out rfl 4 rfl 24 _ rfl rfl (ld24 _ _) ?_ | refine wpList_ld hE.out rfl 5 rfl 24 _ rfl rfl (ld24 _ _) ?_ | refine wpList_ld hE.out rfl 6 rfl 24 _ rfl rfl (ld24 _ _) ?_ | refine wpList_ld hE.out rfl 7 rfl 24 _ rfl rfl (ld24 _ _) ?_)) | (go_at_call 31; refine (lrow0 (ρ := ρ) (peek := 0) (l := [237, opOf k + 16] ++ l) (cp := cb) (fun V' hb => blk_bytes ((hE.out.under hb).at_ 2 _ _ rfl).2 (by have := hl4.out; simp; omega)) hcb.out (by intro x hx; have := op_form k hk'.out; rcases List.mem_append.1 hx with h | h; (simp at h; omega); (exact hlr.out x h)) (env_tab hE.out ht.out) i0.out i2.out hB.out).mono ?_; rintro e V2 ⟨hb, A1, c6, A6, c7, rfl, hlc, hA1, hq, hg⟩; obtain ⟨gq, rfl, hge, hB1⟩ := hA1 hQ.out; replace hE := Aside0.mk (hE.out.join hb hge hB1); have hlcQ := Aside0.mk hlc; clear hlc hg hA1 hq hB1 hge hb) | ((with_reducible refine gate_alloc 24 ?_); refine wpList_new hE.out rfl (zeroRg.vals) 24 (by kernel_rfl) ?_; intro V g hE'; replace hE := Aside0.mk hE'; clear hE') | ((with_reducible refine gate_store 24 ?_); refine wpList_st hE.out rfl 0 rfl 24 _ _ rfl _ rfl rfl rfl (by kernel_rfl) (vals_one _) ?_; intro V hE'; (try dsimp only [List.set_cons_zero, List.set_cons_succ] at hE'); replace hE := Aside0.mk hE'; clear hE'))
  have cPQ : P.length ≤ c6 := by have := hlcQ.out; have := hQl.out; omega
  have cz : (c6 = 0) = False := eq_false (by have := hP4.out; omega)
  go_upto_region 13 with (first | (go_at_call 32; refine (lreqsP hE.out P X Q hQe.out 3 1 rfl rfl hlcP.out (by have := hlcQ.out; have := hQl.out; omega) hP5.out).mono ?_; rintro e V5 ⟨rfl, hE5⟩; replace hE := Aside0.mk hE5; clear hE5))
  rcases hcase.out with ⟨rfl, rfl⟩ | ⟨rfl, rfl⟩
  · go_upto_region 14 with fail
    have q2 := (hE.out.at_ 2 _ _ rfl).2.cell 13 _ rfl
    have q8 := (hE.out.at_ 8 _ _ rfl).2.cell 13 _ rfl
    go_wp2_with (first | ((with_reducible refine gate_load 24 ?_); (try refine gate_guard (by rfl) ?_); (first | refine wpList_ld hE.out rfl 0 rfl 24 _ rfl rfl (ld24 _ _) ?_ | refine wpList_ld hE.out rfl 1 rfl 24 _ rfl rfl (ld24 _ _) ?_ | refine wpList_ld hE.out rfl 2 rfl 24 _ rfl rfl (ld24 _ _) ?_)) | ((with_reducible refine gate_bin' .eql 24 ?_); (try refine gate_guard (by rfl) ?_); refine wpList_val' rfl (.bool true) (run_eq24 _ _ _ _ _ rfl rfl rfl _) ?_))
    go_ret
    exact ⟨rfl, hE.out.b⟩
  · go_upto_region 15 with fail
    have q0 := (hE.out.at_ 0 _ _ rfl).2.cell 13 _ rfl
    have q1 := (hE.out.at_ 0 _ _ rfl).2.cell 14 _ rfl
    have q8 := (hE.out.at_ 8 _ _ rfl).2.cell 13 _ rfl
    rw [e1.out] at q0
    rw [e2.out] at q1
    go_upto_region 17 with (first | ((with_reducible refine gate_load 56 ?_); go_must ((try refine gate_guard (by rfl) ?_); refine wpList_val' rfl (.agg (reqC 6 0 0 5)) (k56_ld (blk_reqs (xs := P ++ [⟨6, 0, 0, 5⟩]) (by have h := (hE.out.at_ 1 _ _ rfl).2; rw [hQe.out] at h; exact h) (by have := hP5.out; simp; omega)) P.length (x := ⟨6, 0, 0, 5⟩) (by simp) rfl rfl) ?_)) | ((with_reducible refine gate_dst (N := 123) rfl ?_); (with_reducible refine gate_bld 56 ?_); (try refine gate_guard (by rfl) ?_); refine wpList_bld24 rfl rfl (.agg (reqC 6 0 0 5)) (by kernel_rfl) ?_) | ((with_reducible refine gate_bin' .neq 56 ?_); (try refine gate_guard (by rfl) ?_); refine wpList_val' rfl (.bool false) (run_ne56 _ _ _ _ _ _ _ _ rfl rfl rfl _) ?_))
    go_upto_region 18 with (first | ((with_reducible refine gate_region 17 ?_); go_must ((refine region_sch (fun V => Env W V [_]) [(0, 0), (2, 0), (1, 1), (4, 0), (3, 1), (5, 2)] [6, 7] [6, 7] 8 (by kernel_rfl) rfl rfl (by kernel_rfl) (by intro c a d v w h; cases d <;> exact h) ((hE.out.drewN 1).one (i := 2) rfl) ?_); replace hE := Aside0.mk (hE.out.drewN 1); have hS0 := hE.out.one (i := 2) rfl; (refine Sch.pureN (v := ?_) (a' := ?_) rfl rfl (by rfl) ?_ ?_ ?_; rotate_left 2; (· (intro w'; go_simp <;> with_reducible rfl)); (· (simp only [Act.put, List.setIfInBounds_toArray, List.set_cons_zero, List.set_cons_succ, i64_w, i32_w] <;> rfl))); (refine Sch.pureN (v := ?_) (a' := ?_) rfl rfl (by rfl) ?_ ?_ ?_; rotate_left 2; (· (intro w'; go_simp <;> with_reducible rfl)); (· (simp only [Act.put, List.setIfInBounds_toArray, List.set_cons_zero, List.set_cons_succ, i64_w, i32_w] <;> rfl))); (refine Sch.takeN (v := ?_) (a' := ?_) rfl rfl (by rfl) hS0 ?_ ?_ ?_; rotate_left 2; (· (intro w' hS'; have qq := (hS'.at_ 0 _ _ rfl).2.cell 13 _ rfl; go_simp <;> with_reducible rfl)); (· (simp only [Act.put, List.setIfInBounds_toArray, List.set_cons_zero, List.set_cons_succ, i64_w, i32_w] <;> rfl))); (refine Sch.pureN (v := ?_) (a' := ?_) rfl rfl (by rfl) ?_ ?_ ?_; rotate_left 2; (· (intro w'; go_simp <;> with_reducible rfl)); (· (simp only [Act.put, List.setIfInBounds_toArray, List.set_cons_zero, List.set_cons_succ, i64_w, i32_w] <;> rfl))); (refine Sch.takeN (v := ?_) (a' := ?_) rfl rfl (by rfl) hS0 ?_ ?_ ?_; rotate_left 2; (· (intro w' hS'; have qq := (hS'.at_ 0 _ _ rfl).2.cell 14 _ rfl; go_simp <;> with_reducible rfl)); (· (simp only [Act.put, List.setIfInBounds_toArray, List.set_cons_zero, List.set_cons_succ, i64_w, i32_w] <;> rfl))); (refine Sch.st1 hE.out 0 rfl rfl rfl (by rfl) 22 _ _ rfl _ _ rfl rfl (by kernel_rfl) rfl rfl (by simp [Rg.vals]) ?_); intro V hE'; replace hE := Aside0.mk hE'; clear hE'; refine ⟨hE.out.one (i := 2) rfl, ?_⟩; (refine Sch.tail 6 2 rfl rfl ?_; simp only [List.drop_succ_cons, List.drop_zero, List.drop_nil]))) | ((with_reducible refine gate_store 22 ?_); refine wpList_st1 hE.out rfl 0 rfl 22 _ _ rfl _ _ rfl rfl (by kernel_rfl) rfl rfl (by simp [Rg.vals]) ?_; intro V hE'; (try dsimp only [List.set_cons_zero, List.set_cons_succ] at hE'); replace hE := Aside0.mk hE'; clear hE'))
    replace hE : Aside0 (Env W _ [(_, S.vals), (_, reqsC Q), (_, S.vals), _, _, _, _, _, _]) := ⟨hE.out⟩
    go_wp2_with (first | ((with_reducible refine gate_load 24 ?_); (try refine gate_guard (by rfl) ?_); (first | refine wpList_ld hE.out rfl 0 rfl 24 _ rfl rfl (ld24 _ _) ?_ | refine wpList_ld hE.out rfl 1 rfl 24 _ rfl rfl (ld24 _ _) ?_ | refine wpList_ld hE.out rfl 2 rfl 24 _ rfl rfl (ld24 _ _) ?_)) | ((with_reducible refine gate_bin' .eql 24 ?_); (try refine gate_guard (by rfl) ?_); refine wpList_val' rfl (.bool true) (run_eq24 _ _ _ _ _ rfl rfl rfl _) ?_))
    go_ret
    exact ⟨rfl, hE.out.b⟩
set_option maxHeartbeats 16000000 in
set_option maxRecDepth 100000 in
theorem lblk_nil {W : World} {A : Option Addr} {l : List Int} {cp : Nat} {ρ : Rg} {w : Int} {k : Nat} (hk : k < 8) (hpk : pendulumkit_Pick.f w 8 = some (k : Int)) (hG : ∀ V, Below W.heap.size W V → Kd.C (Kd.int .u8) V A l.length l) (hcp : l.length ≤ cp) (hlr : ∀ x ∈ l, 0 ≤ x ∧ x < 256) (ht : Table W) (i0 : 0 ≤ ρ.im) (i2 : ρ.im ≤ 2) (hok : (decide (ρ.im < 0) || decide (ρ.im > 2)) = false) (hl : l.length ≤ 40) (hl0 : l = []) (hh : ρ.halt = false) (p0 : 0 ≤ ρ.pc) (p1 : ρ.pc < 65536) {P Q : List S56} {G G' : List Int} {S S' : Rg} (hA : rowL (nx ρ 0) (237 :: opOf k :: l) 11 [] [] = some (P, G, S)) (hB : rowL (nx ρ 0) (237 :: (opOf k + 16) :: l) 11 [] [] = some (Q, G', S')) (hP4 : 4 ≤ P.length) (hP5 : P.length ≤ 5) {X : List S56} (hQe : Q = P ++ X) (hX : X.length ≤ 1) (hSp : S.pc = inc16 (inc16 ρ.pc)) (hcase : (X = [] ∧ S' = S) ∨ (X = [⟨6, 0, 0, 5⟩] ∧ S' = { S with pc := sub2 S.pc, wz := inc16 (sub2 S.pc) })) :
    Calls Tryz.prog 7 #[.agg ρ.vals, .int .i64 w, .slice A l.length cp] W fun e V => e = .returned (.bool true) ∧ Below W.heap.size W V := by
  subst hl0
  have hl0 : True := trivial
  have e0 : (S.pc == IntKind.u16.wrap (ρ.pc + 2)) = true := by rw [hSp, beq_iff_eq]; unfold inc16; simp only [B.wu16]; omega
  have e1 : sub2 S.pc = ρ.pc := by rw [hSp]; unfold sub2 inc16; simp only [B.wu16]; omega
  have e2 : inc16 (sub2 S.pc) = IntKind.u16.wrap (ρ.pc + 1) := by rw [e1]; rfl
  clear hSp
  have e1 := Aside0.mk e1
  have e2 := Aside0.mk e2
  have hcase := Aside0.mk hcase
  have hE := Aside0.mk (Env.nil W)
  have ht := Aside0.mk ht
  have hh := Aside0.mk hh
  have hc1 := Aside0.mk hok
  have hG := Aside0.mk hG
  have hcp := Aside0.mk hcp
  have hlr := Aside0.mk hlr
  have hpk := Aside0.mk hpk
  have hl0 := Aside0.mk hl0
  have hA := Aside0.mk hA
  have hB := Aside0.mk hB
  have hP : Aside0 (P ≠ []) := ⟨fun e => by rw [e] at hP4; simp at hP4⟩
  have hQ : Aside0 (Q ≠ []) := ⟨fun e => by rw [hQe] at e; exact hP.out (List.append_eq_nil_iff.1 e).1⟩
  have hQl0 : Q.length = P.length + X.length := by rw [hQe, List.length_append]
  have f1 : decide ((P.length : Int) < 4) = false := decide_eq_false (by omega)
  have f2 : decide ((Q.length : Int) < (P.length : Int)) = false := decide_eq_false (by omega)
  have hQl := Aside0.mk hQl0
  clear hQl0
  have hQe := Aside0.mk hQe
  have hP4 := Aside0.mk hP4
  have hP5 := Aside0.mk hP5
  have hX := Aside0.mk hX
  have hl4 := Aside0.mk hl
  have hk' := Aside0.mk hk
  replace i0 := Aside0.mk i0
  replace i2 := Aside0.mk i2
  replace p0 := Aside0.mk p0
  replace p1 := Aside0.mk p1
  have htm : Int.tmod (k : Int) 2 = (k : Int) % 2 := Int.tmod_eq_emod_of_nonneg (by omega)
  have htd : Int.tdiv (k : Int) 2 = (k : Int) / 2 := Int.tdiv_eq_ediv_of_nonneg (by omega)
  clear hok hl hk
  go_enter Tryz.func7, Tryz.ntmps7
  go_upto_region 6 with (first | ((with_reducible refine gate_box 24 ?_); refine wpList_new hE.out rfl (Rg.vals _) 24 rfl ?_; intro V g hE'; replace hE := Aside0.mk hE'; clear hE') | (go_at_call 28; refine (llives (env_tab hE.out ht.out)).mono ?_; rintro e V2 ⟨rfl, hb⟩; replace hE := Aside0.mk (hE.out.under hb); clear hb) | (go_at_call 12; refine (lcheck8_ok ρ _ hc1.out).mono ?_; rintro e V2 ⟨rfl, hb⟩; replace hE := Aside0.mk (hE.out.under hb); clear hb; have q22 := (hE.out.at_ 0 _ _ rfl).2.cell 22 _ rfl; rw [hh.out] at q22) | ((with_reducible refine gate_load 24 ?_); (try refine gate_guard (by rfl) ?_); refine wpList_ld hE.out rfl 0 rfl 24 _ rfl rfl (ld24 _ _) ?_) | (go_at_call 30; refine (pendulumkit_Pick.calls _ _ _ _ hpk.out).mono ?_; rintro e V3 ⟨rfl, hd5⟩; obtain ⟨n5, rfl⟩ := hd5.out; replace hE := Aside0.mk (hE.out.drewN n5)))
  go_upto_region 7 with fail
  rw [(op_form k hk'.out).1]
  go_upto_region 8 with (first | ((with_reducible refine gate_bsl 25 ?_); refine wpList_bsl hE.out rfl (bytesC [237, opOf k]) 5 2 (by kernel_rfl) ?_; intro V g hE'; replace hE := Aside0.mk hE'; clear hE') | ((with_reducible refine gate_builtin (b := .append) (xs := #[.tmp 44, .tmp 45]) rfl ?_); at_builtin; refine wpList_appB0 rfl (.tmp 44) (.tmp 45) rfl rfl rfl ?_))
  go_upto_region 9 with (first | ((with_reducible refine gate_bsl 25 ?_); refine wpList_bsl hE.out rfl (bytesC [237, (opOf k + 16) % 256]) 5 2 (by kernel_rfl) ?_; intro V g hE'; replace hE := Aside0.mk hE'; clear hE'; rw [(op_form k hk'.out).2.1] at hE) | ((with_reducible refine gate_builtin (b := .append) (xs := #[.tmp 49, .tmp 50]) rfl ?_); at_builtin; refine wpList_appB0 rfl (.tmp 49) (.tmp 50) rfl rfl rfl ?_))
  go_upto_region 10 with (first | ((with_reducible refine gate_load 24 ?_); (try refine gate_guard (by rfl) ?_); (first | refine wpList_ld hE.out rfl 0 rfl 24 _ rfl rfl (ld24 _ _) ?_ | refine wpList_ld hE.out rfl 1 rfl 24 _ rfl rfl (ld24 _ _) ?_ | refine wpList_ld hE.out rfl 2 rfl 24 _ rfl rfl (ld24 _ _) ?_ | refine wpList_ld hE.out rfl 3 rfl 24 _ rfl rfl (ld24 _ _) ?_)) | (go_at_call 31; refine (lrow0 (ρ := ρ) (peek := 0) (l := [237, opOf k]) (cp := 2) (fun V' hb => blk_bytes ((hE.out.under hb).at_ 1 _ _ rfl).2 (by simp)) (by simp) (by intro x hx; have := op_form k hk'.out; simp at hx; omega) (env_tab hE.out ht.out) i0.out i2.out hA.out).mono ?_; rintro e V2 ⟨hb, A1, c6, A6, c7, rfl, hlc, hA1, hq, hg⟩; obtain ⟨gp, rfl, hge, hB1⟩ := hA1 hP.out; replace hE := Aside0.mk (hE.out.join hb hge hB1); have hlcP := Aside0.mk hlc; clear hlc hg hA1 hq hB1 hge hb) | ((with_reducible refine gate_alloc 24 ?_); refine wpList_new hE.out rfl (zeroRg.vals) 24 (by kernel_rfl) ?_; intro V g hE'; replace hE := Aside0.mk hE'; clear hE') | ((with_reducible refine gate_store 24 ?_); refine wpList_st hE.out rfl 0 rfl 24 _ _ rfl _ rfl rfl rfl (by kernel_rfl) (vals_one _) ?_; intro V hE'; (try dsimp only [List.set_cons_zero, List.set_cons_succ] at hE'); replace hE := Aside0.mk hE'; clear hE'))
  go_upto_region 11 with (first | ((with_reducible refine gate_load 24 ?_); (try refine gate_guard (by rfl) ?_); (first | refine wpList_ld hE.out rfl 0 rfl 24 _ rfl rfl (ld24 _ _) ?_ | refine wpList_ld hE.out rfl 1 rfl 24 _ rfl rfl (ld24 _ _) ?_ | refine wpList_ld hE.out rfl 2 rfl 24 _ rfl rfl (ld24 _ _) ?_ | refine wpList_ld hE.out rfl 3 rfl 24 _ rfl rfl (ld24 _ _) ?_ | refine wpList_ld hE.out rfl 4 rfl 24 _ rfl rfl (ld24 _ _) ?_ | refine wpList_ld hE.out rfl 5 rfl 24 _ rfl rfl (ld24 _ _) ?_)) | (go_at_call 31; refine (lrow0 (ρ := ρ) (peek := 0) (l := [237, opOf k + 16]) (cp := 2) (fun V' hb => blk_bytes ((hE.out.under hb).at_ 2 _ _ rfl).2 (by simp)) (by simp) (by intro x hx; have := op_form k hk'.out; simp at hx; omega) (env_tab hE.out ht.out) i0.out i2.out hB.out).mono ?_; rintro e V2 ⟨hb, A1, c6, A6, c7, rfl, hlc, hA1, hq, hg⟩; obtain ⟨gq, rfl, hge, hB1⟩ := hA1 hQ.out; replace hE := Aside0.mk (hE.out.join hb hge hB1); have hlcQ := Aside0.mk hlc; clear hlc hg hA1 hq hB1 hge hb) | ((with_reducible refine gate_alloc 24 ?_); refine wpList_new hE.out rfl (zeroRg.vals) 24 (by kernel_rfl) ?_; intro V g hE'; replace hE := Aside0.mk hE'; clear hE') | ((with_reducible refine gate_store 24 ?_); refine wpList_st hE.out rfl 0 rfl 24 _ _ rfl _ rfl rfl rfl (by kernel_rfl) (vals_one _) ?_; intro V hE'; (try dsimp only [List.set_cons_zero, List.set_cons_succ] at hE'); replace hE := Aside0.mk hE'; clear hE'))
  have cPQ : P.length ≤ c6 := by have := hlcQ.out; have := hQl.out; omega
  have cz : (c6 = 0) = False := eq_false (by have := hP4.out; omega)
  go_upto_region 13 with (first | (go_at_call 32; refine (lreqsP hE.out P X Q hQe.out 3 1 rfl rfl hlcP.out (by have := hlcQ.out; have := hQl.out; omega) hP5.out).mono ?_; rintro e V5 ⟨rfl, hE5⟩; replace hE := Aside0.mk hE5; clear hE5))
  rcases hcase.out with ⟨rfl, rfl⟩ | ⟨rfl, rfl⟩
  · go_upto_region 14 with fail
    have q2 := (hE.out.at_ 2 _ _ rfl).2.cell 13 _ rfl
    have q8 := (hE.out.at_ 6 _ _ rfl).2.cell 13 _ rfl
    go_wp2_with (first | ((with_reducible refine gate_load 24 ?_); (try refine gate_guard (by rfl) ?_); (first | refine wpList_ld hE.out rfl 0 rfl 24 _ rfl rfl (ld24 _ _) ?_ | refine wpList_ld hE.out rfl 1 rfl 24 _ rfl rfl (ld24 _ _) ?_ | refine wpList_ld hE.out rfl 2 rfl 24 _ rfl rfl (ld24 _ _) ?_)) | ((with_reducible refine gate_bin' .eql 24 ?_); (try refine gate_guard (by rfl) ?_); refine wpList_val' rfl (.bool true) (run_eq24 _ _ _ _ _ rfl rfl rfl _) ?_))
    go_ret
    exact ⟨rfl, hE.out.b⟩
  · go_upto_region 15 with fail
    have q0 := (hE.out.at_ 0 _ _ rfl).2.cell 13 _ rfl
    have q1 := (hE.out.at_ 0 _ _ rfl).2.cell 14 _ rfl
    have q8 := (hE.out.at_ 6 _ _ rfl).2.cell 13 _ rfl
    rw [e1.out] at q0
    rw [e2.out] at q1
    go_upto_region 17 with (first | ((with_reducible refine gate_load 56 ?_); go_must ((try refine gate_guard (by rfl) ?_); refine wpList_val' rfl (.agg (reqC 6 0 0 5)) (k56_ld (blk_reqs (xs := P ++ [⟨6, 0, 0, 5⟩]) (by have h := (hE.out.at_ 1 _ _ rfl).2; rw [hQe.out] at h; exact h) (by have := hP5.out; simp; omega)) P.length (x := ⟨6, 0, 0, 5⟩) (by simp) rfl rfl) ?_)) | ((with_reducible refine gate_dst (N := 123) rfl ?_); (with_reducible refine gate_bld 56 ?_); (try refine gate_guard (by rfl) ?_); refine wpList_bld24 rfl rfl (.agg (reqC 6 0 0 5)) (by kernel_rfl) ?_) | ((with_reducible refine gate_bin' .neq 56 ?_); (try refine gate_guard (by rfl) ?_); refine wpList_val' rfl (.bool false) (run_ne56 _ _ _ _ _ _ _ _ rfl rfl rfl _) ?_))
    go_upto_region 18 with (first | ((with_reducible refine gate_region 17 ?_); go_must ((refine region_sch (fun V => Env W V [_]) [(0, 0), (2, 0), (1, 1), (4, 0), (3, 1), (5, 2)] [6, 7] [6, 7] 8 (by kernel_rfl) rfl rfl (by kernel_rfl) (by intro c a d v w h; cases d <;> exact h) ((hE.out.drewN 1).one (i := 2) rfl) ?_); replace hE := Aside0.mk (hE.out.drewN 1); have hS0 := hE.out.one (i := 2) rfl; (refine Sch.pureN (v := ?_) (a' := ?_) rfl rfl (by rfl) ?_ ?_ ?_; rotate_left 2; (· (intro w'; go_simp <;> with_reducible rfl)); (· (simp only [Act.put, List.setIfInBounds_toArray, List.set_cons_zero, List.set_cons_succ, i64_w, i32_w] <;> rfl))); (refine Sch.pureN (v := ?_) (a' := ?_) rfl rfl (by rfl) ?_ ?_ ?_; rotate_left 2; (· (intro w'; go_simp <;> with_reducible rfl)); (· (simp only [Act.put, List.setIfInBounds_toArray, List.set_cons_zero, List.set_cons_succ, i64_w, i32_w] <;> rfl))); (refine Sch.takeN (v := ?_) (a' := ?_) rfl rfl (by rfl) hS0 ?_ ?_ ?_; rotate_left 2; (· (intro w' hS'; have qq := (hS'.at_ 0 _ _ rfl).2.cell 13 _ rfl; go_simp <;> with_reducible rfl)); (· (simp only [Act.put, List.setIfInBounds_toArray, List.set_cons_zero, List.set_cons_succ, i64_w, i32_w] <;> rfl))); (refine Sch.pureN (v := ?_) (a' := ?_) rfl rfl (by rfl) ?_ ?_ ?_; rotate_left 2; (· (intro w'; go_simp <;> with_reducible rfl)); (· (simp only [Act.put, List.setIfInBounds_toArray, List.set_cons_zero, List.set_cons_succ, i64_w, i32_w] <;> rfl))); (refine Sch.takeN (v := ?_) (a' := ?_) rfl rfl (by rfl) hS0 ?_ ?_ ?_; rotate_left 2; (· (intro w' hS'; have qq := (hS'.at_ 0 _ _ rfl).2.cell 14 _ rfl; go_simp <;> with_reducible rfl)); (· (simp only [Act.put, List.setIfInBounds_toArray, List.set_cons_zero, List.set_cons_succ, i64_w, i32_w] <;> rfl))); (refine Sch.st1 hE.out 0 rfl rfl rfl (by rfl) 22 _ _ rfl _ _ rfl rfl (by kernel_rfl) rfl rfl (by simp [Rg.vals]) ?_); intro V hE'; replace hE := Aside0.mk hE'; clear hE'; refine ⟨hE.out.one (i := 2) rfl, ?_⟩; (refine Sch.tail 6 2 rfl rfl ?_; simp only [List.drop_succ_cons, List.drop_zero, List.drop_nil]))) | ((with_reducible refine gate_store 22 ?_); refine wpList_st1 hE.out rfl 0 rfl 22 _ _ rfl _ _ rfl rfl (by kernel_rfl) rfl rfl (by simp [Rg.vals]) ?_; intro V hE'; (try dsimp only [List.set_cons_zero, List.set_cons_succ] at hE'); replace hE := Aside0.mk hE'; clear hE'))
    replace hE : Aside0 (Env W _ [(_, S.vals), (_, reqsC Q), (_, S.vals), _, _, _, _]) := ⟨hE.out⟩
    go_wp2_with (first | ((with_reducible refine gate_load 24 ?_); (try refine gate_guard (by rfl) ?_); (first | refine wpList_ld hE.out rfl 0 rfl 24 _ rfl rfl (ld24 _ _) ?_ | refine wpList_ld hE.out rfl 1 rfl 24 _ rfl rfl (ld24 _ _) ?_ | refine wpList_ld hE.out rfl 2 rfl 24 _ rfl rfl (ld24 _ _) ?_)) | ((with_reducible refine gate_bin' .eql 24 ?_); (try refine gate_guard (by rfl) ?_); refine wpList_val' rfl (.bool true) (run_eq24 _ _ _ _ _ rfl rfl rfl _) ?_))
    go_ret
    exact ⟨rfl, hE.out.b⟩
theorem wf64 {x : Int} (h : (Lit.int .i64 x).wf = true) : -9223372036854775808 ≤ x ∧ x < 9223372036854775808 := by
  simp [Lit.wf, IntKind.min, IntKind.max, IntKind.signed, IntKind.bits] at h
  omega
theorem blocksRow {W : World} {ρ : Rg} (w0 : RgOk ρ) {a1 : Int} (w1 : (Lit.int .i64 a1).wf = true) {b : Option Addr} {len cap : Nat} {z : List Int} (w2 : IsRow .u8 W b len cap z) (_y2 : len * 1 ≤ 140737488351232) (ht : Table W) :
    Calls Tryz.prog 7 #[.agg ρ.vals, .int .i64 a1, .slice b len cap] W fun e V => e = .returned (.bool true) ∧ Below W.heap.size W V := by
  obtain ⟨l, rfl, hG, hcp, hlr⟩ := row_bytes w2
  cases hok : (decide (ρ.im < 0) || decide (ρ.im > 2)) with
  | true => exact lblk_bad ht hok
  | false =>
    have him : 0 ≤ ρ.im ∧ ρ.im ≤ 2 := by
      simp only [Bool.or_eq_false_iff, decide_eq_false_iff_not] at hok
      omega
    by_cases hl : l.length ≤ 40
    · cases hh : ρ.halt with
      | true => exact lblk_halt ht hok hl hh
      | false =>
        obtain ⟨k, hk, hpk⟩ := pick8 a1 (wf64 w1).1 (wf64 w1).2
        obtain ⟨P, G, S, G', hA, hP4, hP5, hSp, hB⟩ := blocks_rows ρ hh k hk l
        by_cases hl0 : l = []
        · rcases hB with hB | hB
          · exact lblk_nil hk hpk hG hcp hlr ht him.1 him.2 hok hl hl0 hh w0.pc.1 w0.pc.2 hA hB hP4 hP5 (X := []) (by simp) (by simp) hSp (.inl ⟨rfl, rfl⟩)
          · exact lblk_nil hk hpk hG hcp hlr ht him.1 him.2 hok hl hl0 hh w0.pc.1 w0.pc.2 hA hB hP4 hP5 (X := [⟨6, 0, 0, 5⟩]) rfl (by simp) hSp (.inr ⟨rfl, rfl⟩)
        · have hl1 : 0 < l.length := List.length_pos_iff.2 hl0
          rcases hB with hB | hB
          · exact lblk_main hk hpk hG hcp hlr ht him.1 him.2 hok hl hl1 hh w0.pc.1 w0.pc.2 hA hB hP4 hP5 (X := []) (by simp) (by simp) hSp (.inl ⟨rfl, rfl⟩)
          · exact lblk_main hk hpk hG hcp hlr ht him.1 him.2 hok hl hl1 hh w0.pc.1 w0.pc.2 hA hB hP4 hP5 (X := [⟨6, 0, 0, 5⟩]) rfl (by simp) hSp (.inr ⟨rfl, rfl⟩)
    · exact lblk_long ht hok (by omega)
end Go.Proofs.YtnelghpendfdmaaGreatDoor.KRow
