/-
  PROVED: pendulumlaw11.StepHalts answers true.
-/
import Derived.ArgAppend
import Derived.Test.YtnelghpendfdmaaGreatDoorKLb
import Derived.Test.YtnelghpendfdmaaGreatDoorKLd
import Derived.Test.YtnelghpendfdmaaGreatDoorHKit
import Derived.Test.YtnelghpendfdmaaGreatDoorBits
import Derived.Test.YtnelghpendfdmaaGreatDoorKOpen
namespace Go.Proofs.YtnelghpendfdmaaGreatDoor.KRow
open Go Go.RowKit Go.Proofs.YtnelghpendfdmaaGreatDoorW.PrintWords Go.Proofs.YtnelghpendfdmaaGreatDoorW.PrintLast Go.Proofs.YtnelghpendfdmaaGreatDoorW.PrintMore
open Go.Proofs.YtnelghpendfdmaaGreatDoor.HFun
set_option linter.unusedVariables false
set_option linter.unusedSimpArgs false
theorem reqsL_app (xs ys : List S56) : reqsL (xs ++ ys) = reqsL xs ++ reqsL ys := List.flatMap_append
theorem reqsL_len (xs : List S56) : (reqsL xs).length = xs.length * 4 := by
  induction xs with
  | nil => rfl
  | cons x xs ih =>
    show ((s56c x).toList ++ reqsL xs).length = _
    rw [List.length_append, ih]
    simp [s56c, reqC]
    omega
theorem reqsL_one (xs : List S56) : ∀ u ∈ reqsL xs, u.oneCell' = true := by
  induction xs with
  | nil => intro u hu; cases hu
  | cons x xs ih =>
    intro u hu
    rcases List.mem_append.1 (show u ∈ (s56c x).toList ++ reqsL xs from hu) with h | h
    · simp [s56c, reqC] at h
      rcases h with rfl | rfl | rfl | rfl <;> rfl
    · exact ih u h
theorem info56i : ∃ i, Tryz.prog.info? 56 = some i ∧ i.zero = some (.agg #[(.int .i64 0), (.int .u16 0), (.int .u8 0), (.int .i64 0)]) ∧ i.size = 4 ∧ i.bytes = 24 := by
  have h := info56c
  cases hi : Tryz.prog.info? 56 with
  | none => rw [hi] at h; cases h
  | some i =>
    rw [hi] at h
    simp only [Option.map_some, Option.some.injEq, Prod.mk.injEq] at h
    exact ⟨i, rfl, h.1, h.2.1, h.2.2⟩
theorem blk_own {w : World} {base g cap : Nat} {cur : Array Value} {xs : List S56} {n : Nat} (hh : w.heap[g]? = some (.cells cur 56 (0, 0))) (ht : cur.toList.take (n * 4) = reqsL xs) : BlkAt w g (reqsC xs) := by
  refine ⟨(Array.getElem?_eq_some_iff.1 hh).1, fun k v hk => ?_, fun k => ?_⟩
  · have hk' : (reqsL xs)[k]? = some v := by simpa [reqsC] using hk
    rw [← ht, List.getElem?_take] at hk'
    have hk2 : cur[k]? = some v := by
      split at hk'
      · simpa using hk'
      · cases hk'
    simp only [World.cell?, hh]
    simpa using hk2
  · simp only [World.frozen?, hh]
    simp
theorem wpList_appE {w0 V : World} {bs : List (Nat × Array Value)} {ops : Array Oper} {rest : List Oper} {op : Oper} {a : Act} {Q : Exit → Act → World → Prop} (h : Env w0 V bs) (i j : Nat) {g g' : Nat} (xs ys : List S56) (n m : Nat) (hi : bs[i]? = some (g, reqsC xs)) (hj : bs[j]? = some (g', reqsC ys)) (hn : xs.length = n) (hm : ys.length = m) (h0 : 0 < m) (hs0 : n + m ≤ 1000)
    (hgd : op.guard = none) (s y : Operand) (ho : op.op = .call { callee := .builtin .append, args := #[s, y], argTypes := #[38, 38] }) (hs : a.eval s = .slice (some ⟨g, 0, none⟩) n n) (hy : a.eval y = .slice (some ⟨g', 0, none⟩) m m)
    (k : ∀ V' g2 c, Env w0 V' ((g2, reqsC (xs ++ ys)) :: bs) → n + m ≤ c → wpList Tryz.prog ops Q rest (a.put op.dst (.slice (some ⟨g2, 0, none⟩) (n + m) c)) V') : wpList Tryz.prog ops Q (op :: rest) a V := by
  obtain ⟨inf, h2, h3, h4, h5⟩ := info56i
  have had : ∀ (g k : Nat), (⟨g, 0, none⟩ : Addr).add k = ⟨g, k, none⟩ := fun g k => by
    by_cases e : k = 0
    · subst e; rfl
    · simp [Addr.add]; omega
  refine wpList_append_grows V hgd s y 38 ho 56 inf _ 4 24 Tryz.underlying38 h2 h3 h4 h5 rfl (by decide) (some ⟨g, 0, none⟩) n n (reqsL xs) hs (fun e => by cases e) (by rw [reqsL_len, hn]) (fun b e j' u hu => ?_) ⟨g', 0, none⟩ m m (reqsL ys) hy (by rw [reqsL_len, hm]) (fun j' u hu => ?_) (reqsL_one ys) (by omega) (by simp only [maxLen]; omega) (by omega) ?_
  · cases e
    rw [had]
    exact (h.at_ i _ _ hi).2.cell j' u (by simpa [reqsC] using hu)
  · rw [had]
    exact (h.at_ j _ _ hj).2.cell j' u (by simpa [reqsC] using hu)
  · rintro v' w' ⟨hl, hc⟩ hg
    rcases hc with ⟨_, e2⟩ | ⟨g2, cap, cur, rfl, hge, hh, hle, _, hsz, ht⟩
    · omega
    · refine k w' g2 cap (h.join ⟨hg.os, hg.tape, hg.output, hg.size, fun q hq => hg.block q hq (by simp)⟩ hge (blk_own (base := 0) (cap := 0) (n := n + m) hh (by rw [reqsL_app]; exact ht))) hle
def haltS (ρ : Rg) : Rg := { ρ with halt := true, late := false, r := ρ.refresh.r }
theorem nx_halt0 (ρ : Rg) : nx { ρ with halt := true } 0 [] = ⟨1, ρ.pc, 0, 4, zeroRg, false, 0⟩ := by
  simp [nx, Rw.instr, Rw.halted, Rw.req, Tr.bind, Tr.run, toldOf]
theorem nx_halt1 (ρ : Rg) (x : Int) : nx { ρ with halt := true } 0 [x] = ⟨0, 0, 0, 0, haltS ρ, true, 0⟩ := by
  simp [nx, Rw.instr, Rw.halted, Rw.req, Tr.bind, Tr.run, toldOf, haltS, Rg.refresh]
theorem row_halt (ρ : Rg) (l : List Int) : rowL (nx { ρ with halt := true } 0) l 11 [] [] = some ([⟨1, ρ.pc, 0, 4⟩], [if 0 < l.length then rd l 0 else 0], haltS ρ) := by
  simp only [rowL, nx_halt0, if_true, Bool.false_eq_true, if_false, List.nil_append, List.length_nil, nx_halt1]
  rfl
def backS (ρ : Rg) (pc : Int) : Rg := { ρ with halt := false, ff1 := false, ff2 := false, late := false, r := ρ.refresh.r, sp := dec16 (dec16 ρ.sp), pc := pc, wz := pc }
def ackQ (ρ : Rg) : List S56 := [⟨7, ρ.pc, 0, 7⟩, ⟨3, dec16 ρ.sp, ρ.pc / 256 % 256, 3⟩, ⟨3, dec16 (dec16 ρ.sp), ρ.pc % 256, 3⟩]
def fiveQ (ρ : Rg) (v : Int) : List S56 := ackQ ρ ++ [⟨2, wPair ρ.i v, 0, 3⟩, ⟨2, inc16 (wPair ρ.i v), 0, 3⟩]
theorem row_acc0 (ρ : Rg) (v : Int) (h : ρ.im = 0) : rowL (nxi ρ) [v, 0, 0, 52, 18] 11 [] [] = some (ackQ ρ, [v, 0, 0], backS ρ (IntKind.u16.wrap (Go.bits .and .u8 v 56))) := by
  simp [rowL, nxi, Rw.intrr, Rw.req, Rw.push, Rw.write, Rw.read, Tr.bind, Tr.run, toldOf, h, ackQ, backS, rd]
  rfl
theorem row_acc1 (ρ : Rg) (v : Int) (h : ρ.im = 1) : rowL (nxi ρ) [v, 0, 0, 52, 18] 11 [] [] = some (ackQ ρ, [v, 0, 0], backS ρ 56) := by
  simp [rowL, nxi, Rw.intrr, Rw.req, Rw.push, Rw.write, Rw.read, Tr.bind, Tr.run, toldOf, h, ackQ, backS, rd]
  rfl
theorem row_acc2 (ρ : Rg) (v : Int) (h : ρ.im = 2) : rowL (nxi ρ) [v, 0, 0, 52, 18] 11 [] [] = some (fiveQ ρ v, [v, 0, 0, 52, 18], backS ρ 4660) := by
  simp [rowL, nxi, Rw.intrr, Rw.req, Rw.push, Rw.write, Rw.read, Tr.bind, Tr.run, toldOf, h, fiveQ, ackQ, backS, rd]
  exact ⟨rfl, by decide +kernel⟩
def wantQ (ρ : Rg) : List S56 := [⟨7, ρ.pc, 0, 7⟩, ⟨3, IntKind.u16.wrap (ρ.sp - 1), IntKind.u16.wrap (ρ.pc.tdiv 256) % 256, 3⟩, ⟨3, IntKind.u16.wrap (ρ.sp - 2), ρ.pc.tmod 256 % 256, 3⟩]
theorem want_ack (ρ : Rg) (p0 : 0 ≤ ρ.pc) (p1 : ρ.pc < 65536) : wantQ ρ = ackQ ρ := by
  have h1 : ρ.pc.tdiv 256 = ρ.pc / 256 := Int.tdiv_eq_ediv_of_nonneg p0
  have h2 : ρ.pc.tmod 256 = ρ.pc % 256 := Int.tmod_eq_emod_of_nonneg p0
  unfold wantQ ackQ dec16
  rw [h1, h2]
  simp only [B.wu16]
  congr 2
  · congr 1
    omega
  · congr 2
    · omega
    · omega
theorem reqs_ack (ρ : Rg) : pendulumkit_Reqs.f 8 (ackQ ρ) (ackQ ρ) = some true := by
  simp [pendulumkit_Reqs.f, pendulumkit_Reqs.l0, ackQ, rd_T56, wrap64]
theorem lreqsE {w0 V : World} {bs : List (Nat × Array Value)} (h : Env w0 V bs) (xs : List S56) (i j n : Nat) {g g' c c' : Nat} (hi : bs[i]? = some (g, reqsC xs)) (hj : bs[j]? = some (g', reqsC xs)) (hn : xs.length = n) (hc : n ≤ c) (hc' : n ≤ c') (hm : n ≤ 1000) (hr : pendulumkit_Reqs.f 8 xs xs = some true) :
    Calls Tryz.prog 32 #[.slice (some ⟨g, 0, none⟩) n c, .slice (some ⟨g', 0, none⟩) n c'] V fun e V' => e = .returned (.bool true) ∧ Env w0 V' bs := by
  subst hn
  refine (pendulumkit_Reqs.calls 8 _ _ xs _ _ xs true _ (blk_reqs (h.at_ i _ _ hi).2 (by omega)) hc (blk_reqs (h.at_ j _ _ hj).2 (by omega)) hc' hr).mono ?_
  rintro e V' ⟨rfl, hd⟩
  obtain ⟨n5, rfl⟩ := hd.out
  exact ⟨rfl, h.drewN n5⟩
theorem dec2 (x : Int) : dec16 (dec16 x) = IntKind.u16.wrap (x - 2) := by
  unfold dec16
  simp only [B.wu16]
  omega
def wI (ρ : Rg) (v : Int) : Int := IntKind.u16.wrap (IntKind.u16.wrap (IntKind.u16.wrap ρ.i * 256) + IntKind.u16.wrap v)
def twoQ (ρ : Rg) (v : Int) : List S56 := [⟨2, wI ρ v, 0, 3⟩, ⟨2, IntKind.u16.wrap (wI ρ v + 1), 0, 3⟩]
theorem two_five (ρ : Rg) (v : Int) (h0 : 0 ≤ ρ.i) (h1 : ρ.i < 256) (l0 : 0 ≤ v) (l1 : v < 256) : ackQ ρ ++ twoQ ρ v = fiveQ ρ v := by
  have e1 : wPair ρ.i v = ρ.i * 256 + v := by
    unfold wPair
    rw [B.wu16, B.wu16, B.wu16, Int.emod_eq_of_lt l0 (by omega : v < 65536), Int.emod_eq_of_lt h0 (by omega : ρ.i < 65536), Int.emod_eq_of_lt (by omega : 0 ≤ ρ.i * 256) (by omega : ρ.i * 256 < 65536)]
    exact B.or_join16 (by omega) (by omega) (by omega) l0 l1
  have e2 : wI ρ v = ρ.i * 256 + v := by
    unfold wI
    simp only [B.wu16]
    omega
  unfold twoQ fiveQ inc16
  rw [e1, e2]
theorem reqs_five (ρ : Rg) (v : Int) : pendulumkit_Reqs.f 8 (fiveQ ρ v) (fiveQ ρ v) = some true := by
  simp [pendulumkit_Reqs.f, pendulumkit_Reqs.l0, fiveQ, ackQ, rd_T56, wrap64]
theorem lcheck8_bad (ρ : Rg) (W : World) (hc : (decide (ρ.im < 0) || decide (ρ.im > 2)) = true) : Calls Tryz.prog 12 #[.agg ρ.vals] W fun e V => e = .returned (.int .i64 2) ∧ Below W.heap.size W V := (lcheck8 ρ W true hc).mono fun e V h => h
theorem lcheck8_ok (ρ : Rg) (W : World) (hc : (decide (ρ.im < 0) || decide (ρ.im > 2)) = false) : Calls Tryz.prog 12 #[.agg ρ.vals] W fun e V => e = .returned (.int .i64 0) ∧ Below W.heap.size W V := (lcheck8 ρ W false hc).mono fun e V h => h
set_option maxHeartbeats 16000000 in
set_option maxRecDepth 100000 in
theorem lhalts_bad {W : World} {A : Option Addr} {l : List Int} {cp : Nat} {ρ : Rg} {v : Int} (ht : Table W) (hbad : (decide (ρ.im < 0) || decide (ρ.im > 2)) = true) :
    Calls Tryz.prog 8 #[.agg ρ.vals, .int .u8 v, .slice A l.length cp] W fun e V => e = .returned (.bool true) ∧ Below W.heap.size W V := by
  have hE := Aside0.mk (Env.nil W)
  have ht := Aside0.mk ht
  have hc1 := Aside0.mk hbad
  clear hbad
  go_enter Tryz.func8, Tryz.ntmps8
  go_wp2_with (first | ((with_reducible refine gate_box 24 ?_); refine wpList_new hE.out rfl (Rg.vals _) 24 rfl ?_; intro V g hE'; replace hE := Aside0.mk hE'; clear hE') | (go_at_call 28; refine (llives (env_tab hE.out ht.out)).mono ?_; rintro e V2 ⟨rfl, hb⟩; replace hE := Aside0.mk (hE.out.under hb); clear hb) | (go_at_call 12; refine (lcheck8_bad ρ _ hc1.out).mono ?_; rintro e V2 ⟨rfl, hb⟩; replace hE := Aside0.mk (hE.out.under hb); clear hb) | ((with_reducible refine gate_load 24 ?_); (try refine gate_guard (by rfl) ?_); refine wpList_ld hE.out rfl 0 rfl 24 _ rfl rfl (ld24 _ _) ?_))
  go_ret
  exact ⟨rfl, hE.out.b⟩
set_option maxHeartbeats 16000000 in
set_option maxRecDepth 100000 in
theorem lhalts_long {W : World} {A : Option Addr} {l : List Int} {cp : Nat} {ρ : Rg} {v : Int} (ht : Table W) (hok : (decide (ρ.im < 0) || decide (ρ.im > 2)) = false) (hl : 40 < l.length) :
    Calls Tryz.prog 8 #[.agg ρ.vals, .int .u8 v, .slice A l.length cp] W fun e V => e = .returned (.bool true) ∧ Below W.heap.size W V := by
  have hE := Aside0.mk (Env.nil W)
  have ht := Aside0.mk ht
  have hc1 := Aside0.mk hok
  have hd : decide (40 < (l.length : Int)) = true := decide_eq_true (by omega)
  clear hok hl
  go_enter Tryz.func8, Tryz.ntmps8
  go_wp2_with (first | ((with_reducible refine gate_box 24 ?_); refine wpList_new hE.out rfl (Rg.vals _) 24 rfl ?_; intro V g hE'; replace hE := Aside0.mk hE'; clear hE') | (go_at_call 28; refine (llives (env_tab hE.out ht.out)).mono ?_; rintro e V2 ⟨rfl, hb⟩; replace hE := Aside0.mk (hE.out.under hb); clear hb) | (go_at_call 12; refine (lcheck8_ok ρ _ hc1.out).mono ?_; rintro e V2 ⟨rfl, hb⟩; replace hE := Aside0.mk (hE.out.under hb); clear hb) | ((with_reducible refine gate_load 24 ?_); (try refine gate_guard (by rfl) ?_); refine wpList_ld hE.out rfl 0 rfl 24 _ rfl rfl (ld24 _ _) ?_))
  go_ret
  exact ⟨rfl, hE.out.b⟩
set_option maxHeartbeats 16000000 in
set_option maxRecDepth 100000 in
theorem lhalts0 {W : World} {A : Option Addr} {l : List Int} {cp : Nat} {ρ : Rg} {v : Int} (hG : ∀ V, Below W.heap.size W V → Kd.C (Kd.int .u8) V A l.length l) (hcp : l.length ≤ cp) (hlr : ∀ x ∈ l, 0 ≤ x ∧ x < 256) (ht : Table W) (i0 : 0 ≤ ρ.im) (i2 : ρ.im ≤ 2) (him : ρ.im = 0) (hok : (decide (ρ.im < 0) || decide (ρ.im > 2)) = false) (hl : l.length ≤ 40)
    (r0 : 0 ≤ ρ.r) (r1 : ρ.r < 256) (p0 : 0 ≤ ρ.pc) (p1 : ρ.pc < 65536) (v0 : 0 ≤ v) (v1 : v < 256) (j0 : 0 ≤ ρ.i) (j1 : ρ.i < 256) :
    Calls Tryz.prog 8 #[.agg ρ.vals, .int .u8 v, .slice A l.length cp] W fun e V => e = .returned (.bool true) ∧ Below W.heap.size W V := by
  have hE := Aside0.mk (Env.nil W)
  have ht := Aside0.mk ht
  have hG := Aside0.mk hG
  have hcp := Aside0.mk hcp
  have hlr := Aside0.mk hlr
  have hc1 := Aside0.mk hok
  have hd : decide (40 < (l.length : Int)) = false := decide_eq_false (by omega)
  replace i0 := Aside0.mk i0
  replace i2 := Aside0.mk i2
  replace r0 := Aside0.mk r0
  replace r1 := Aside0.mk r1
  replace p0 := Aside0.mk p0
  replace p1 := Aside0.mk p1
  replace v0 := Aside0.mk v0
  replace v1 := Aside0.mk v1
  replace j0 := Aside0.mk j0
  replace j1 := Aside0.mk j1
  replace him := Aside0.mk him
  clear hl hok
  go_enter Tryz.func8, Tryz.ntmps8
  go_upto_region 7 with (first | ((with_reducible refine gate_box 24 ?_); refine wpList_new hE.out rfl (Rg.vals _) 24 rfl ?_; intro V g hE'; replace hE := Aside0.mk hE'; clear hE') | (go_at_call 28; refine (llives (env_tab hE.out ht.out)).mono ?_; rintro e V2 ⟨rfl, hb⟩; replace hE := Aside0.mk (hE.out.under hb); clear hb) | (go_at_call 12; refine (lcheck8_ok ρ _ hc1.out).mono ?_; rintro e V2 ⟨rfl, hb⟩; replace hE := Aside0.mk (hE.out.under hb); clear hb) | ((with_reducible refine gate_load 24 ?_); (try refine gate_guard (by rfl) ?_); refine wpList_ld hE.out rfl 0 rfl 24 _ rfl rfl (ld24 _ _) ?_) | ((with_reducible refine gate_alloc 24 ?_); refine wpList_new hE.out rfl (zeroRg.vals) 24 (by kernel_rfl) ?_; intro V g hE'; replace hE := Aside0.mk hE'; clear hE') | ((with_reducible refine gate_store 24 ?_); refine wpList_st hE.out rfl 0 rfl 24 _ _ rfl _ rfl rfl rfl (by kernel_rfl) (vals_one _) ?_; intro V hE'; (try dsimp only [List.set_cons_zero, List.set_cons_succ] at hE'); replace hE := Aside0.mk hE'; clear hE') | ((with_reducible refine gate_store 4 ?_); (first | refine wpList_st1 hE.out rfl 0 rfl 4 _ _ rfl _ _ rfl rfl (by kernel_rfl) rfl rfl (by simp [Rg.vals]) ?_ | refine wpList_st1 hE.out rfl 1 rfl 4 _ _ rfl _ _ rfl rfl (by kernel_rfl) rfl rfl (by simp [Rg.vals]) ?_ | refine wpList_st1 hE.out rfl 2 rfl 4 _ _ rfl _ _ rfl rfl (by kernel_rfl) rfl rfl (by simp [Rg.vals]) ?_); intro V hE'; (try dsimp only [List.set_cons_zero, List.set_cons_succ] at hE'); replace hE := Aside0.mk hE'; clear hE'))
  replace hE : Aside0 (Env W _ [(_, Rg.vals { ρ with halt := true }), (_, ρ.vals)]) := ⟨hE.out⟩
  go_upto_region 8 with (first | ((with_reducible refine gate_load 24 ?_); (try refine gate_guard (by rfl) ?_); refine wpList_ld hE.out rfl 0 rfl 24 _ rfl rfl (ld24 _ _) ?_) | (go_at_call 31; refine (lrow0 (ρ := { ρ with halt := true }) (peek := 0) (fun V hb => hG.out V (hE.out.b.trans (hb.mono hE.out.size))) hcp.out hlr.out (env_tab hE.out ht.out) i0.out i2.out (row_halt ρ l)).mono ?_; rintro e V2 ⟨hb, A1, c1, A2, c2, rfl, hlc, hA, hq, hg⟩; obtain ⟨g1, rfl, hge, hB⟩ := hA (by simp); have hB' : BlkAt V2 g1 (reqC 1 ρ.pc 0 4) := hB; replace hE := Aside0.mk (hE.out.join hb hge hB'); clear hg hlc hA hq hB hB' hge hb; dsimp only [List.length_cons, List.length_nil]) | ((with_reducible refine gate_alloc 24 ?_); refine wpList_new hE.out rfl (zeroRg.vals) 24 (by kernel_rfl) ?_; intro V g hE'; replace hE := Aside0.mk hE'; clear hE') | ((with_reducible refine gate_store 24 ?_); refine wpList_st hE.out rfl 0 rfl 24 _ _ rfl _ rfl rfl rfl (by kernel_rfl) (vals_one _) ?_; intro V hE'; (try dsimp only [List.set_cons_zero, List.set_cons_succ] at hE'); replace hE := Aside0.mk hE'; clear hE'))
  go_upto_region 9 with (first | ((with_reducible refine gate_store 4 ?_); (first | refine wpList_st1 hE.out rfl 0 rfl 4 _ _ rfl _ _ rfl rfl (by kernel_rfl) rfl rfl (by simp [Rg.vals]) ?_ | refine wpList_st1 hE.out rfl 1 rfl 4 _ _ rfl _ _ rfl rfl (by kernel_rfl) rfl rfl (by simp [Rg.vals]) ?_ | refine wpList_st1 hE.out rfl 2 rfl 4 _ _ rfl _ _ rfl rfl (by kernel_rfl) rfl rfl (by simp [Rg.vals]) ?_); intro V hE'; (try dsimp only [List.set_cons_zero, List.set_cons_succ] at hE'); replace hE := Aside0.mk hE'; clear hE'))
  replace hE : Aside0 (Env W _ [(_, (haltS ρ).vals), (_, reqC 1 ρ.pc 0 4), (_, Rg.vals { ρ with halt := true, late := false }), (_, ρ.vals)]) := ⟨hE.out⟩
  go_upto_region 11 with (first | ((with_reducible refine gate_region 9 ?_); (refine region_schV (fun V => Env W V [_, _, _, _]) [(0, 0), (1, 0), (2, 0), (3, 0), (4, 0), (5, 0), (6, 0), (7, 0), (8, 0), (9, 0), (11, 0), (10, 1), (12, 1), (13, 0), (14, 0), (15, 0), (16, 0), (17, 1), (18, 1), (19, 2)] [20, 21] [20, 21] 22 (by kernel_rfl) rfl rfl (by kernel_rfl) (by intro c a d v w h; cases d <;> exact h) (hE.out.drewN 1) (fun V hS0 => ?_)); clear hE; (repeat ((first | (refine Sch.pureN (v := ?_) (a' := ?_) rfl rfl (by rfl) ?_ ?_ ?_; rotate_left 2; (· (intro w'; go_simp <;> with_reducible rfl))) | (refine Sch.pureN (a' := ?_) rfl rfl (by rfl) (fun w' => run_ne56 _ _ _ _ _ _ _ _ rfl rfl rfl w') ?_ ?_; rotate_left) | (refine Sch.offN (a' := ?_) rfl rfl (by rfl) ?_ ?_; rotate_left) | (refine Sch.takeN (a' := ?_) rfl rfl (by rfl) hS0 (fun w' hS' => hS'.run 1 rfl rfl rfl (ld56 _ _ _ _ _)) ?_ ?_; rotate_left) | (first | (refine Sch.takeN (a' := ?_) rfl rfl (by rfl) hS0 (fun w' hS' => hS'.run 0 rfl rfl rfl (ld24 _ _)) ?_ ?_; rotate_left) | (refine Sch.takeN (a' := ?_) rfl rfl (by rfl) hS0 (fun w' hS' => hS'.run 1 rfl rfl rfl (ld24 _ _)) ?_ ?_; rotate_left) | (refine Sch.takeN (a' := ?_) rfl rfl (by rfl) hS0 (fun w' hS' => hS'.run 2 rfl rfl rfl (ld24 _ _)) ?_ ?_; rotate_left) | (refine Sch.takeN (a' := ?_) rfl rfl (by rfl) hS0 (fun w' hS' => hS'.run 3 rfl rfl rfl (ld24 _ _)) ?_ ?_; rotate_left)) | (refine Sch.takeN (v := ?_) (a' := ?_) rfl rfl (by rfl) hS0 ?_ ?_ ?_; rotate_left 2; (· (intro w' hS'; first | (have q := (hS'.at_ 3 _ _ rfl).2.cell 13 _ rfl; go_simp <;> with_reducible rfl))))); (· (simp only [Act.put, List.setIfInBounds_toArray, List.set_cons_zero, List.set_cons_succ, i64_w, i32_w] <;> rfl)))); (refine Sch.call (N := (some 56)) rfl rfl Tryz.func33 (by kernel_rfl) rfl ?_ (by rfl) rfl ?_ ?_; rotate_left; (· (go_simp <;> with_reducible rfl)); refine (lrefresh8 { ρ with halt := true, late := false } r0.out r1.out _).mono ?_; rintro e V3 ⟨rfl, hb⟩; replace hS0 := hS0.under hb; clear hb; rw [Rg.ref8_refresh { ρ with halt := true, late := false } r0.out r1.out]; rw [show Rg.refresh { ρ with halt := true, late := false } = haltS ρ from rfl]; refine ⟨hS0, ?_⟩; refine Sch.norm (a' := ?_) ?_ ?_; rotate_left; (· (simp only [Act.put, List.setIfInBounds_toArray, List.set_cons_zero, List.set_cons_succ, i64_w, i32_w] <;> rfl))); (refine Sch.tail 20 2 rfl rfl ?_; simp only [List.drop_succ_cons, List.drop_zero, List.drop_nil]); have hE := Aside0.mk hS0; clear hS0) | ((with_reducible refine gate_bin' .neq 24 ?_); (try refine gate_guard (by rfl) ?_); refine wpList_val' rfl (.bool false) (run_ne24 _ _ _ _ _ rfl rfl rfl _) ?_))
  go_upto_region 12 with (first | ((with_reducible refine gate_bsl 25 ?_); refine wpList_bsl hE.out rfl (bytesC [v, 0, 0, 52, 18]) 5 5 (by kernel_rfl) ?_; intro V g hE'; replace hE := Aside0.mk hE'; clear hE'))
  go_upto_region 13 with (first | ((with_reducible refine gate_load 24 ?_); (try refine gate_guard (by rfl) ?_); (first | refine wpList_ld hE.out rfl 0 rfl 24 _ rfl rfl (ld24 _ _) ?_ | refine wpList_ld hE.out rfl 1 rfl 24 _ rfl rfl (ld24 _ _) ?_ | refine wpList_ld hE.out rfl 2 rfl 24 _ rfl rfl (ld24 _ _) ?_ | refine wpList_ld hE.out rfl 3 rfl 24 _ rfl rfl (ld24 _ _) ?_ | refine wpList_ld hE.out rfl 4 rfl 24 _ rfl rfl (ld24 _ _) ?_ | refine wpList_ld hE.out rfl 5 rfl 24 _ rfl rfl (ld24 _ _) ?_)) | (go_at_call 31; refine (lrow1 (ρ := ρ) (peek := 0) (l := [v, 0, 0, 52, 18]) (cp := 5) (fun V' hb => blk_bytes ((hE.out.under hb).at_ 0 _ _ rfl).2 (by simp)) (by simp) (by intro x hx; have := v0.out; have := v1.out; simp at hx; omega) (env_tab hE.out ht.out) i0.out i2.out (row_acc0 ρ v him.out)).mono ?_; rintro e V2 ⟨hb, A1, c6, A6, c7, rfl, hlc, hA, hq, hg⟩; obtain ⟨g6, rfl, hge, hB⟩ := hA (by simp [ackQ]); replace hE := Aside0.mk (hE.out.join hb hge hB); replace hlc := Aside0.mk hlc; clear hg hA hq hB hge hb; rw [show (ackQ ρ).length = 3 from rfl]) | ((with_reducible refine gate_store 24 ?_); (first | refine wpList_st hE.out rfl 0 rfl 24 _ _ rfl _ rfl rfl rfl (by kernel_rfl) (vals_one _) ?_ | refine wpList_st hE.out rfl 1 rfl 24 _ _ rfl _ rfl rfl rfl (by kernel_rfl) (vals_one _) ?_ | refine wpList_st hE.out rfl 2 rfl 24 _ _ rfl _ rfl rfl rfl (by kernel_rfl) (vals_one _) ?_ | refine wpList_st hE.out rfl 3 rfl 24 _ _ rfl _ rfl rfl rfl (by kernel_rfl) (vals_one _) ?_); intro V hE'; (try dsimp only [List.set_cons_zero, List.set_cons_succ] at hE'); replace hE := Aside0.mk hE'; clear hE'))
  have q5_13 := (hE.out.at_ 5 _ _ rfl).2.cell 13 _ rfl; have q5_12 := (hE.out.at_ 5 _ _ rfl).2.cell 12 _ rfl
  go_upto_region 14 with (first | ((with_reducible refine gate_bsl 38 ?_); refine wpList_bsl hE.out rfl (reqsC (wantQ ρ)) 56 3 (by kernel_rfl) ?_; intro V g hE'; replace hE := Aside0.mk hE'; clear hE'))
  rw [want_ack ρ p0.out p1.out] at hE
  go_upto_region 18 with (first | ((with_reducible refine gate_bsl 68 ?_); refine wpList_bsl hE.out rfl (#[.int .u16 (IntKind.u16.wrap (Go.bits .and .u8 v 56)), .int .u16 56, .int .u16 4660]) 22 3 (by kernel_rfl) ?_; intro V g hE'; replace hE := Aside0.mk hE'; clear hE'; have qi := (hE.out.at_ 0 _ _ rfl).2.cell 0 _ rfl; have q7_21 := (hE.out.at_ 7 _ _ rfl).2.cell 21 _ rfl; rw [him.out] at q7_21))
  go_wp2_with (first | (go_at_call 32; refine (lreqsE hE.out (ackQ ρ) 2 1 3 rfl rfl rfl hlc.out (Nat.le_refl 3) (by decide) (reqs_ack ρ)).mono ?_; rintro e V5 ⟨rfl, hE5⟩; replace hE := Aside0.mk hE5; clear hE5; (try clear q7_21 qi); have q4_12 := (hE.out.at_ 4 _ _ rfl).2.cell 12 (.int .u16 (IntKind.u16.wrap (ρ.sp - 2))) (by rw [← dec2]; rfl); have q4_13 := (hE.out.at_ 4 _ _ rfl).2.cell 13 _ rfl; have q4_14 := (hE.out.at_ 4 _ _ rfl).2.cell 14 _ rfl; have q7_12 := (hE.out.at_ 7 _ _ rfl).2.cell 12 _ rfl; have q4_19 := (hE.out.at_ 4 _ _ rfl).2.cell 19 _ rfl; have q4_20 := (hE.out.at_ 4 _ _ rfl).2.cell 20 _ rfl; have q4_22 := (hE.out.at_ 4 _ _ rfl).2.cell 22 _ rfl) | ((with_reducible refine gate_load 24 ?_); (try refine gate_guard (by rfl) ?_); (first | refine wpList_ld hE.out rfl 0 rfl 24 _ rfl rfl (ld24 _ _) ?_ | refine wpList_ld hE.out rfl 1 rfl 24 _ rfl rfl (ld24 _ _) ?_ | refine wpList_ld hE.out rfl 2 rfl 24 _ rfl rfl (ld24 _ _) ?_ | refine wpList_ld hE.out rfl 3 rfl 24 _ rfl rfl (ld24 _ _) ?_ | refine wpList_ld hE.out rfl 4 rfl 24 _ rfl rfl (ld24 _ _) ?_ | refine wpList_ld hE.out rfl 5 rfl 24 _ rfl rfl (ld24 _ _) ?_ | refine wpList_ld hE.out rfl 6 rfl 24 _ rfl rfl (ld24 _ _) ?_ | refine wpList_ld hE.out rfl 7 rfl 24 _ rfl rfl (ld24 _ _) ?_ | refine wpList_ld hE.out rfl 8 rfl 24 _ rfl rfl (ld24 _ _) ?_)) | (go_at_call 34; refine (lmay (backS ρ (IntKind.u16.wrap (Go.bits .and .u8 v 56))) i0.out i2.out rfl _).mono ?_; rintro e V6 ⟨rfl, hb⟩; replace hE := Aside0.mk (hE.out.under hb); clear hb))
  go_ret
  exact ⟨rfl, hE.out.b⟩
set_option maxHeartbeats 16000000 in
set_option maxRecDepth 100000 in
theorem lhalts1 {W : World} {A : Option Addr} {l : List Int} {cp : Nat} {ρ : Rg} {v : Int} (hG : ∀ V, Below W.heap.size W V → Kd.C (Kd.int .u8) V A l.length l) (hcp : l.length ≤ cp) (hlr : ∀ x ∈ l, 0 ≤ x ∧ x < 256) (ht : Table W) (i0 : 0 ≤ ρ.im) (i2 : ρ.im ≤ 2) (him : ρ.im = 1) (hok : (decide (ρ.im < 0) || decide (ρ.im > 2)) = false) (hl : l.length ≤ 40)
    (r0 : 0 ≤ ρ.r) (r1 : ρ.r < 256) (p0 : 0 ≤ ρ.pc) (p1 : ρ.pc < 65536) (v0 : 0 ≤ v) (v1 : v < 256) (j0 : 0 ≤ ρ.i) (j1 : ρ.i < 256) :
    Calls Tryz.prog 8 #[.agg ρ.vals, .int .u8 v, .slice A l.length cp] W fun e V => e = .returned (.bool true) ∧ Below W.heap.size W V := by
  have hE := Aside0.mk (Env.nil W)
  have ht := Aside0.mk ht
  have hG := Aside0.mk hG
  have hcp := Aside0.mk hcp
  have hlr := Aside0.mk hlr
  have hc1 := Aside0.mk hok
  have hd : decide (40 < (l.length : Int)) = false := decide_eq_false (by omega)
  replace i0 := Aside0.mk i0
  replace i2 := Aside0.mk i2
  replace r0 := Aside0.mk r0
  replace r1 := Aside0.mk r1
  replace p0 := Aside0.mk p0
  replace p1 := Aside0.mk p1
  replace v0 := Aside0.mk v0
  replace v1 := Aside0.mk v1
  replace j0 := Aside0.mk j0
  replace j1 := Aside0.mk j1
  replace him := Aside0.mk him
  clear hl hok
  go_enter Tryz.func8, Tryz.ntmps8
  go_upto_region 7 with (first | ((with_reducible refine gate_box 24 ?_); refine wpList_new hE.out rfl (Rg.vals _) 24 rfl ?_; intro V g hE'; replace hE := Aside0.mk hE'; clear hE') | (go_at_call 28; refine (llives (env_tab hE.out ht.out)).mono ?_; rintro e V2 ⟨rfl, hb⟩; replace hE := Aside0.mk (hE.out.under hb); clear hb) | (go_at_call 12; refine (lcheck8_ok ρ _ hc1.out).mono ?_; rintro e V2 ⟨rfl, hb⟩; replace hE := Aside0.mk (hE.out.under hb); clear hb) | ((with_reducible refine gate_load 24 ?_); (try refine gate_guard (by rfl) ?_); refine wpList_ld hE.out rfl 0 rfl 24 _ rfl rfl (ld24 _ _) ?_) | ((with_reducible refine gate_alloc 24 ?_); refine wpList_new hE.out rfl (zeroRg.vals) 24 (by kernel_rfl) ?_; intro V g hE'; replace hE := Aside0.mk hE'; clear hE') | ((with_reducible refine gate_store 24 ?_); refine wpList_st hE.out rfl 0 rfl 24 _ _ rfl _ rfl rfl rfl (by kernel_rfl) (vals_one _) ?_; intro V hE'; (try dsimp only [List.set_cons_zero, List.set_cons_succ] at hE'); replace hE := Aside0.mk hE'; clear hE') | ((with_reducible refine gate_store 4 ?_); (first | refine wpList_st1 hE.out rfl 0 rfl 4 _ _ rfl _ _ rfl rfl (by kernel_rfl) rfl rfl (by simp [Rg.vals]) ?_ | refine wpList_st1 hE.out rfl 1 rfl 4 _ _ rfl _ _ rfl rfl (by kernel_rfl) rfl rfl (by simp [Rg.vals]) ?_ | refine wpList_st1 hE.out rfl 2 rfl 4 _ _ rfl _ _ rfl rfl (by kernel_rfl) rfl rfl (by simp [Rg.vals]) ?_); intro V hE'; (try dsimp only [List.set_cons_zero, List.set_cons_succ] at hE'); replace hE := Aside0.mk hE'; clear hE'))
  replace hE : Aside0 (Env W _ [(_, Rg.vals { ρ with halt := true }), (_, ρ.vals)]) := ⟨hE.out⟩
  go_upto_region 8 with (first | ((with_reducible refine gate_load 24 ?_); (try refine gate_guard (by rfl) ?_); refine wpList_ld hE.out rfl 0 rfl 24 _ rfl rfl (ld24 _ _) ?_) | (go_at_call 31; refine (lrow0 (ρ := { ρ with halt := true }) (peek := 0) (fun V hb => hG.out V (hE.out.b.trans (hb.mono hE.out.size))) hcp.out hlr.out (env_tab hE.out ht.out) i0.out i2.out (row_halt ρ l)).mono ?_; rintro e V2 ⟨hb, A1, c1, A2, c2, rfl, hlc, hA, hq, hg⟩; obtain ⟨g1, rfl, hge, hB⟩ := hA (by simp); have hB' : BlkAt V2 g1 (reqC 1 ρ.pc 0 4) := hB; replace hE := Aside0.mk (hE.out.join hb hge hB'); clear hg hlc hA hq hB hB' hge hb; dsimp only [List.length_cons, List.length_nil]) | ((with_reducible refine gate_alloc 24 ?_); refine wpList_new hE.out rfl (zeroRg.vals) 24 (by kernel_rfl) ?_; intro V g hE'; replace hE := Aside0.mk hE'; clear hE') | ((with_reducible refine gate_store 24 ?_); refine wpList_st hE.out rfl 0 rfl 24 _ _ rfl _ rfl rfl rfl (by kernel_rfl) (vals_one _) ?_; intro V hE'; (try dsimp only [List.set_cons_zero, List.set_cons_succ] at hE'); replace hE := Aside0.mk hE'; clear hE'))
  go_upto_region 9 with (first | ((with_reducible refine gate_store 4 ?_); (first | refine wpList_st1 hE.out rfl 0 rfl 4 _ _ rfl _ _ rfl rfl (by kernel_rfl) rfl rfl (by simp [Rg.vals]) ?_ | refine wpList_st1 hE.out rfl 1 rfl 4 _ _ rfl _ _ rfl rfl (by kernel_rfl) rfl rfl (by simp [Rg.vals]) ?_ | refine wpList_st1 hE.out rfl 2 rfl 4 _ _ rfl _ _ rfl rfl (by kernel_rfl) rfl rfl (by simp [Rg.vals]) ?_); intro V hE'; (try dsimp only [List.set_cons_zero, List.set_cons_succ] at hE'); replace hE := Aside0.mk hE'; clear hE'))
  replace hE : Aside0 (Env W _ [(_, (haltS ρ).vals), (_, reqC 1 ρ.pc 0 4), (_, Rg.vals { ρ with halt := true, late := false }), (_, ρ.vals)]) := ⟨hE.out⟩
  go_upto_region 11 with (first | ((with_reducible refine gate_region 9 ?_); (refine region_schV (fun V => Env W V [_, _, _, _]) [(0, 0), (1, 0), (2, 0), (3, 0), (4, 0), (5, 0), (6, 0), (7, 0), (8, 0), (9, 0), (11, 0), (10, 1), (12, 1), (13, 0), (14, 0), (15, 0), (16, 0), (17, 1), (18, 1), (19, 2)] [20, 21] [20, 21] 22 (by kernel_rfl) rfl rfl (by kernel_rfl) (by intro c a d v w h; cases d <;> exact h) (hE.out.drewN 1) (fun V hS0 => ?_)); clear hE; (repeat ((first | (refine Sch.pureN (v := ?_) (a' := ?_) rfl rfl (by rfl) ?_ ?_ ?_; rotate_left 2; (· (intro w'; go_simp <;> with_reducible rfl))) | (refine Sch.pureN (a' := ?_) rfl rfl (by rfl) (fun w' => run_ne56 _ _ _ _ _ _ _ _ rfl rfl rfl w') ?_ ?_; rotate_left) | (refine Sch.offN (a' := ?_) rfl rfl (by rfl) ?_ ?_; rotate_left) | (refine Sch.takeN (a' := ?_) rfl rfl (by rfl) hS0 (fun w' hS' => hS'.run 1 rfl rfl rfl (ld56 _ _ _ _ _)) ?_ ?_; rotate_left) | (first | (refine Sch.takeN (a' := ?_) rfl rfl (by rfl) hS0 (fun w' hS' => hS'.run 0 rfl rfl rfl (ld24 _ _)) ?_ ?_; rotate_left) | (refine Sch.takeN (a' := ?_) rfl rfl (by rfl) hS0 (fun w' hS' => hS'.run 1 rfl rfl rfl (ld24 _ _)) ?_ ?_; rotate_left) | (refine Sch.takeN (a' := ?_) rfl rfl (by rfl) hS0 (fun w' hS' => hS'.run 2 rfl rfl rfl (ld24 _ _)) ?_ ?_; rotate_left) | (refine Sch.takeN (a' := ?_) rfl rfl (by rfl) hS0 (fun w' hS' => hS'.run 3 rfl rfl rfl (ld24 _ _)) ?_ ?_; rotate_left)) | (refine Sch.takeN (v := ?_) (a' := ?_) rfl rfl (by rfl) hS0 ?_ ?_ ?_; rotate_left 2; (· (intro w' hS'; first | (have q := (hS'.at_ 3 _ _ rfl).2.cell 13 _ rfl; go_simp <;> with_reducible rfl))))); (· (simp only [Act.put, List.setIfInBounds_toArray, List.set_cons_zero, List.set_cons_succ, i64_w, i32_w] <;> rfl)))); (refine Sch.call (N := (some 56)) rfl rfl Tryz.func33 (by kernel_rfl) rfl ?_ (by rfl) rfl ?_ ?_; rotate_left; (· (go_simp <;> with_reducible rfl)); refine (lrefresh8 { ρ with halt := true, late := false } r0.out r1.out _).mono ?_; rintro e V3 ⟨rfl, hb⟩; replace hS0 := hS0.under hb; clear hb; rw [Rg.ref8_refresh { ρ with halt := true, late := false } r0.out r1.out]; rw [show Rg.refresh { ρ with halt := true, late := false } = haltS ρ from rfl]; refine ⟨hS0, ?_⟩; refine Sch.norm (a' := ?_) ?_ ?_; rotate_left; (· (simp only [Act.put, List.setIfInBounds_toArray, List.set_cons_zero, List.set_cons_succ, i64_w, i32_w] <;> rfl))); (refine Sch.tail 20 2 rfl rfl ?_; simp only [List.drop_succ_cons, List.drop_zero, List.drop_nil]); have hE := Aside0.mk hS0; clear hS0) | ((with_reducible refine gate_bin' .neq 24 ?_); (try refine gate_guard (by rfl) ?_); refine wpList_val' rfl (.bool false) (run_ne24 _ _ _ _ _ rfl rfl rfl _) ?_))
  go_upto_region 12 with (first | ((with_reducible refine gate_bsl 25 ?_); refine wpList_bsl hE.out rfl (bytesC [v, 0, 0, 52, 18]) 5 5 (by kernel_rfl) ?_; intro V g hE'; replace hE := Aside0.mk hE'; clear hE'))
  go_upto_region 13 with (first | ((with_reducible refine gate_load 24 ?_); (try refine gate_guard (by rfl) ?_); (first | refine wpList_ld hE.out rfl 0 rfl 24 _ rfl rfl (ld24 _ _) ?_ | refine wpList_ld hE.out rfl 1 rfl 24 _ rfl rfl (ld24 _ _) ?_ | refine wpList_ld hE.out rfl 2 rfl 24 _ rfl rfl (ld24 _ _) ?_ | refine wpList_ld hE.out rfl 3 rfl 24 _ rfl rfl (ld24 _ _) ?_ | refine wpList_ld hE.out rfl 4 rfl 24 _ rfl rfl (ld24 _ _) ?_ | refine wpList_ld hE.out rfl 5 rfl 24 _ rfl rfl (ld24 _ _) ?_)) | (go_at_call 31; refine (lrow1 (ρ := ρ) (peek := 0) (l := [v, 0, 0, 52, 18]) (cp := 5) (fun V' hb => blk_bytes ((hE.out.under hb).at_ 0 _ _ rfl).2 (by simp)) (by simp) (by intro x hx; have := v0.out; have := v1.out; simp at hx; omega) (env_tab hE.out ht.out) i0.out i2.out (row_acc1 ρ v him.out)).mono ?_; rintro e V2 ⟨hb, A1, c6, A6, c7, rfl, hlc, hA, hq, hg⟩; obtain ⟨g6, rfl, hge, hB⟩ := hA (by simp [ackQ]); replace hE := Aside0.mk (hE.out.join hb hge hB); replace hlc := Aside0.mk hlc; clear hg hA hq hB hge hb; rw [show (ackQ ρ).length = 3 from rfl]) | ((with_reducible refine gate_store 24 ?_); (first | refine wpList_st hE.out rfl 0 rfl 24 _ _ rfl _ rfl rfl rfl (by kernel_rfl) (vals_one _) ?_ | refine wpList_st hE.out rfl 1 rfl 24 _ _ rfl _ rfl rfl rfl (by kernel_rfl) (vals_one _) ?_ | refine wpList_st hE.out rfl 2 rfl 24 _ _ rfl _ rfl rfl rfl (by kernel_rfl) (vals_one _) ?_ | refine wpList_st hE.out rfl 3 rfl 24 _ _ rfl _ rfl rfl rfl (by kernel_rfl) (vals_one _) ?_); intro V hE'; (try dsimp only [List.set_cons_zero, List.set_cons_succ] at hE'); replace hE := Aside0.mk hE'; clear hE'))
  have q5_13 := (hE.out.at_ 5 _ _ rfl).2.cell 13 _ rfl; have q5_12 := (hE.out.at_ 5 _ _ rfl).2.cell 12 _ rfl
  go_upto_region 14 with (first | ((with_reducible refine gate_bsl 38 ?_); refine wpList_bsl hE.out rfl (reqsC (wantQ ρ)) 56 3 (by kernel_rfl) ?_; intro V g hE'; replace hE := Aside0.mk hE'; clear hE'))
  rw [want_ack ρ p0.out p1.out] at hE
  go_upto_region 18 with (first | ((with_reducible refine gate_bsl 68 ?_); refine wpList_bsl hE.out rfl (#[.int .u16 (IntKind.u16.wrap (Go.bits .and .u8 v 56)), .int .u16 56, .int .u16 4660]) 22 3 (by kernel_rfl) ?_; intro V g hE'; replace hE := Aside0.mk hE'; clear hE'; have qi := (hE.out.at_ 0 _ _ rfl).2.cell 1 _ rfl; have q7_21 := (hE.out.at_ 7 _ _ rfl).2.cell 21 _ rfl; rw [him.out] at q7_21))
  go_wp2_with (first | (go_at_call 32; refine (lreqsE hE.out (ackQ ρ) 2 1 3 rfl rfl rfl hlc.out (Nat.le_refl 3) (by decide) (reqs_ack ρ)).mono ?_; rintro e V5 ⟨rfl, hE5⟩; replace hE := Aside0.mk hE5; clear hE5; (try clear q7_21 qi); have q4_12 := (hE.out.at_ 4 _ _ rfl).2.cell 12 (.int .u16 (IntKind.u16.wrap (ρ.sp - 2))) (by rw [← dec2]; rfl); have q4_13 := (hE.out.at_ 4 _ _ rfl).2.cell 13 _ rfl; have q4_14 := (hE.out.at_ 4 _ _ rfl).2.cell 14 _ rfl; have q7_12 := (hE.out.at_ 7 _ _ rfl).2.cell 12 _ rfl; have q4_19 := (hE.out.at_ 4 _ _ rfl).2.cell 19 _ rfl; have q4_20 := (hE.out.at_ 4 _ _ rfl).2.cell 20 _ rfl; have q4_22 := (hE.out.at_ 4 _ _ rfl).2.cell 22 _ rfl) | ((with_reducible refine gate_load 24 ?_); (try refine gate_guard (by rfl) ?_); (first | refine wpList_ld hE.out rfl 0 rfl 24 _ rfl rfl (ld24 _ _) ?_ | refine wpList_ld hE.out rfl 1 rfl 24 _ rfl rfl (ld24 _ _) ?_ | refine wpList_ld hE.out rfl 2 rfl 24 _ rfl rfl (ld24 _ _) ?_ | refine wpList_ld hE.out rfl 3 rfl 24 _ rfl rfl (ld24 _ _) ?_ | refine wpList_ld hE.out rfl 4 rfl 24 _ rfl rfl (ld24 _ _) ?_ | refine wpList_ld hE.out rfl 5 rfl 24 _ rfl rfl (ld24 _ _) ?_ | refine wpList_ld hE.out rfl 6 rfl 24 _ rfl rfl (ld24 _ _) ?_ | refine wpList_ld hE.out rfl 7 rfl 24 _ rfl rfl (ld24 _ _) ?_ | refine wpList_ld hE.out rfl 8 rfl 24 _ rfl rfl (ld24 _ _) ?_)) | (go_at_call 34; refine (lmay (backS ρ 56) i0.out i2.out rfl _).mono ?_; rintro e V6 ⟨rfl, hb⟩; replace hE := Aside0.mk (hE.out.under hb); clear hb))
  go_ret
  exact ⟨rfl, hE.out.b⟩
set_option maxHeartbeats 16000000 in
set_option maxRecDepth 100000 in
theorem lhalts2 {W : World} {A : Option Addr} {l : List Int} {cp : Nat} {ρ : Rg} {v : Int} (hG : ∀ V, Below W.heap.size W V → Kd.C (Kd.int .u8) V A l.length l) (hcp : l.length ≤ cp) (hlr : ∀ x ∈ l, 0 ≤ x ∧ x < 256) (ht : Table W) (i0 : 0 ≤ ρ.im) (i2 : ρ.im ≤ 2) (him : ρ.im = 2) (hok : (decide (ρ.im < 0) || decide (ρ.im > 2)) = false) (hl : l.length ≤ 40)
    (r0 : 0 ≤ ρ.r) (r1 : ρ.r < 256) (p0 : 0 ≤ ρ.pc) (p1 : ρ.pc < 65536) (v0 : 0 ≤ v) (v1 : v < 256) (j0 : 0 ≤ ρ.i) (j1 : ρ.i < 256) :
    Calls Tryz.prog 8 #[.agg ρ.vals, .int .u8 v, .slice A l.length cp] W fun e V => e = .returned (.bool true) ∧ Below W.heap.size W V := by
  have hE := Aside0.mk (Env.nil W)
  have ht := Aside0.mk ht
  have hG := Aside0.mk hG
  have hcp := Aside0.mk hcp
  have hlr := Aside0.mk hlr
  have hc1 := Aside0.mk hok
  have hd : decide (40 < (l.length : Int)) = false := decide_eq_false (by omega)
  replace i0 := Aside0.mk i0
  replace i2 := Aside0.mk i2
  replace r0 := Aside0.mk r0
  replace r1 := Aside0.mk r1
  replace p0 := Aside0.mk p0
  replace p1 := Aside0.mk p1
  replace v0 := Aside0.mk v0
  replace v1 := Aside0.mk v1
  replace j0 := Aside0.mk j0
  replace j1 := Aside0.mk j1
  replace him := Aside0.mk him
  clear hl hok
  go_enter Tryz.func8, Tryz.ntmps8
  go_upto_region 7 with (first | ((with_reducible refine gate_box 24 ?_); refine wpList_new hE.out rfl (Rg.vals _) 24 rfl ?_; intro V g hE'; replace hE := Aside0.mk hE'; clear hE') | (go_at_call 28; refine (llives (env_tab hE.out ht.out)).mono ?_; rintro e V2 ⟨rfl, hb⟩; replace hE := Aside0.mk (hE.out.under hb); clear hb) | (go_at_call 12; refine (lcheck8_ok ρ _ hc1.out).mono ?_; rintro e V2 ⟨rfl, hb⟩; replace hE := Aside0.mk (hE.out.under hb); clear hb) | ((with_reducible refine gate_load 24 ?_); (try refine gate_guard (by rfl) ?_); refine wpList_ld hE.out rfl 0 rfl 24 _ rfl rfl (ld24 _ _) ?_) | ((with_reducible refine gate_alloc 24 ?_); refine wpList_new hE.out rfl (zeroRg.vals) 24 (by kernel_rfl) ?_; intro V g hE'; replace hE := Aside0.mk hE'; clear hE') | ((with_reducible refine gate_store 24 ?_); refine wpList_st hE.out rfl 0 rfl 24 _ _ rfl _ rfl rfl rfl (by kernel_rfl) (vals_one _) ?_; intro V hE'; (try dsimp only [List.set_cons_zero, List.set_cons_succ] at hE'); replace hE := Aside0.mk hE'; clear hE') | ((with_reducible refine gate_store 4 ?_); (first | refine wpList_st1 hE.out rfl 0 rfl 4 _ _ rfl _ _ rfl rfl (by kernel_rfl) rfl rfl (by simp [Rg.vals]) ?_ | refine wpList_st1 hE.out rfl 1 rfl 4 _ _ rfl _ _ rfl rfl (by kernel_rfl) rfl rfl (by simp [Rg.vals]) ?_ | refine wpList_st1 hE.out rfl 2 rfl 4 _ _ rfl _ _ rfl rfl (by kernel_rfl) rfl rfl (by simp [Rg.vals]) ?_); intro V hE'; (try dsimp only [List.set_cons_zero, List.set_cons_succ] at hE'); replace hE := Aside0.mk hE'; clear hE'))
  replace hE : Aside0 (Env W _ [(_, Rg.vals { ρ with halt := true }), (_, ρ.vals)]) := ⟨hE.out⟩
  go_upto_region 8 with (first | ((with_reducible refine gate_load 24 ?_); (try refine gate_guard (by rfl) ?_); refine wpList_ld hE.out rfl 0 rfl 24 _ rfl rfl (ld24 _ _) ?_) | (go_at_call 31; refine (lrow0 (ρ := { ρ with halt := true }) (peek := 0) (fun V hb => hG.out V (hE.out.b.trans (hb.mono hE.out.size))) hcp.out hlr.out (env_tab hE.out ht.out) i0.out i2.out (row_halt ρ l)).mono ?_; rintro e V2 ⟨hb, A1, c1, A2, c2, rfl, hlc, hA, hq, hg⟩; obtain ⟨g1, rfl, hge, hB⟩ := hA (by simp); have hB' : BlkAt V2 g1 (reqC 1 ρ.pc 0 4) := hB; replace hE := Aside0.mk (hE.out.join hb hge hB'); clear hg hlc hA hq hB hB' hge hb; dsimp only [List.length_cons, List.length_nil]) | ((with_reducible refine gate_alloc 24 ?_); refine wpList_new hE.out rfl (zeroRg.vals) 24 (by kernel_rfl) ?_; intro V g hE'; replace hE := Aside0.mk hE'; clear hE') | ((with_reducible refine gate_store 24 ?_); refine wpList_st hE.out rfl 0 rfl 24 _ _ rfl _ rfl rfl rfl (by kernel_rfl) (vals_one _) ?_; intro V hE'; (try dsimp only [List.set_cons_zero, List.set_cons_succ] at hE'); replace hE := Aside0.mk hE'; clear hE'))
  go_upto_region 9 with (first | ((with_reducible refine gate_store 4 ?_); (first | refine wpList_st1 hE.out rfl 0 rfl 4 _ _ rfl _ _ rfl rfl (by kernel_rfl) rfl rfl (by simp [Rg.vals]) ?_ | refine wpList_st1 hE.out rfl 1 rfl 4 _ _ rfl _ _ rfl rfl (by kernel_rfl) rfl rfl (by simp [Rg.vals]) ?_ | refine wpList_st1 hE.out rfl 2 rfl 4 _ _ rfl _ _ rfl rfl (by kernel_rfl) rfl rfl (by simp [Rg.vals]) ?_); intro V hE'; (try dsimp only [List.set_cons_zero, List.set_cons_succ] at hE'); replace hE := Aside0.mk hE'; clear hE'))
  replace hE : Aside0 (Env W _ [(_, (haltS ρ).vals), (_, reqC 1 ρ.pc 0 4), (_, Rg.vals { ρ with halt := true, late := false }), (_, ρ.vals)]) := ⟨hE.out⟩
  go_upto_region 11 with (first | ((with_reducible refine gate_region 9 ?_); (refine region_schV (fun V => Env W V [_, _, _, _]) [(0, 0), (1, 0), (2, 0), (3, 0), (4, 0), (5, 0), (6, 0), (7, 0), (8, 0), (9, 0), (11, 0), (10, 1), (12, 1), (13, 0), (14, 0), (15, 0), (16, 0), (17, 1), (18, 1), (19, 2)] [20, 21] [20, 21] 22 (by kernel_rfl) rfl rfl (by kernel_rfl) (by intro c a d v w h; cases d <;> exact h) (hE.out.drewN 1) (fun V hS0 => ?_)); clear hE; (repeat ((first | (refine Sch.pureN (v := ?_) (a' := ?_) rfl rfl (by rfl) ?_ ?_ ?_; rotate_left 2; (· (intro w'; go_simp <;> with_reducible rfl))) | (refine Sch.pureN (a' := ?_) rfl rfl (by rfl) (fun w' => run_ne56 _ _ _ _ _ _ _ _ rfl rfl rfl w') ?_ ?_; rotate_left) | (refine Sch.offN (a' := ?_) rfl rfl (by rfl) ?_ ?_; rotate_left) | (refine Sch.takeN (a' := ?_) rfl rfl (by rfl) hS0 (fun w' hS' => hS'.run 1 rfl rfl rfl (ld56 _ _ _ _ _)) ?_ ?_; rotate_left) | (first | (refine Sch.takeN (a' := ?_) rfl rfl (by rfl) hS0 (fun w' hS' => hS'.run 0 rfl rfl rfl (ld24 _ _)) ?_ ?_; rotate_left) | (refine Sch.takeN (a' := ?_) rfl rfl (by rfl) hS0 (fun w' hS' => hS'.run 1 rfl rfl rfl (ld24 _ _)) ?_ ?_; rotate_left) | (refine Sch.takeN (a' := ?_) rfl rfl (by rfl) hS0 (fun w' hS' => hS'.run 2 rfl rfl rfl (ld24 _ _)) ?_ ?_; rotate_left) | (refine Sch.takeN (a' := ?_) rfl rfl (by rfl) hS0 (fun w' hS' => hS'.run 3 rfl rfl rfl (ld24 _ _)) ?_ ?_; rotate_left)) | (refine Sch.takeN (v := ?_) (a' := ?_) rfl rfl (by rfl) hS0 ?_ ?_ ?_; rotate_left 2; (· (intro w' hS'; first | (have q := (hS'.at_ 3 _ _ rfl).2.cell 13 _ rfl; go_simp <;> with_reducible rfl))))); (· (simp only [Act.put, List.setIfInBounds_toArray, List.set_cons_zero, List.set_cons_succ, i64_w, i32_w] <;> rfl)))); (refine Sch.call (N := (some 56)) rfl rfl Tryz.func33 (by kernel_rfl) rfl ?_ (by rfl) rfl ?_ ?_; rotate_left; (· (go_simp <;> with_reducible rfl)); refine (lrefresh8 { ρ with halt := true, late := false } r0.out r1.out _).mono ?_; rintro e V3 ⟨rfl, hb⟩; replace hS0 := hS0.under hb; clear hb; rw [Rg.ref8_refresh { ρ with halt := true, late := false } r0.out r1.out]; rw [show Rg.refresh { ρ with halt := true, late := false } = haltS ρ from rfl]; refine ⟨hS0, ?_⟩; refine Sch.norm (a' := ?_) ?_ ?_; rotate_left; (· (simp only [Act.put, List.setIfInBounds_toArray, List.set_cons_zero, List.set_cons_succ, i64_w, i32_w] <;> rfl))); (refine Sch.tail 20 2 rfl rfl ?_; simp only [List.drop_succ_cons, List.drop_zero, List.drop_nil]); have hE := Aside0.mk hS0; clear hS0) | ((with_reducible refine gate_bin' .neq 24 ?_); (try refine gate_guard (by rfl) ?_); refine wpList_val' rfl (.bool false) (run_ne24 _ _ _ _ _ rfl rfl rfl _) ?_))
  go_upto_region 12 with (first | ((with_reducible refine gate_bsl 25 ?_); refine wpList_bsl hE.out rfl (bytesC [v, 0, 0, 52, 18]) 5 5 (by kernel_rfl) ?_; intro V g hE'; replace hE := Aside0.mk hE'; clear hE'))
  go_upto_region 13 with (first | ((with_reducible refine gate_load 24 ?_); (try refine gate_guard (by rfl) ?_); (first | refine wpList_ld hE.out rfl 0 rfl 24 _ rfl rfl (ld24 _ _) ?_ | refine wpList_ld hE.out rfl 1 rfl 24 _ rfl rfl (ld24 _ _) ?_ | refine wpList_ld hE.out rfl 2 rfl 24 _ rfl rfl (ld24 _ _) ?_ | refine wpList_ld hE.out rfl 3 rfl 24 _ rfl rfl (ld24 _ _) ?_ | refine wpList_ld hE.out rfl 4 rfl 24 _ rfl rfl (ld24 _ _) ?_ | refine wpList_ld hE.out rfl 5 rfl 24 _ rfl rfl (ld24 _ _) ?_)) | (go_at_call 31; refine (lrow1 (ρ := ρ) (peek := 0) (l := [v, 0, 0, 52, 18]) (cp := 5) (fun V' hb => blk_bytes ((hE.out.under hb).at_ 0 _ _ rfl).2 (by simp)) (by simp) (by intro x hx; have := v0.out; have := v1.out; simp at hx; omega) (env_tab hE.out ht.out) i0.out i2.out (row_acc2 ρ v him.out)).mono ?_; rintro e V2 ⟨hb, A1, c6, A6, c7, rfl, hlc, hA, hq, hg⟩; obtain ⟨g6, rfl, hge, hB⟩ := hA (by simp [fiveQ]); replace hE := Aside0.mk (hE.out.join hb hge hB); replace hlc := Aside0.mk hlc; clear hg hA hq hB hge hb; rw [show (fiveQ ρ v).length = 5 from rfl]) | ((with_reducible refine gate_store 24 ?_); (first | refine wpList_st hE.out rfl 0 rfl 24 _ _ rfl _ rfl rfl rfl (by kernel_rfl) (vals_one _) ?_ | refine wpList_st hE.out rfl 1 rfl 24 _ _ rfl _ rfl rfl rfl (by kernel_rfl) (vals_one _) ?_ | refine wpList_st hE.out rfl 2 rfl 24 _ _ rfl _ rfl rfl rfl (by kernel_rfl) (vals_one _) ?_ | refine wpList_st hE.out rfl 3 rfl 24 _ _ rfl _ rfl rfl rfl (by kernel_rfl) (vals_one _) ?_); intro V hE'; (try dsimp only [List.set_cons_zero, List.set_cons_succ] at hE'); replace hE := Aside0.mk hE'; clear hE'))
  have q5_13 := (hE.out.at_ 5 _ _ rfl).2.cell 13 _ rfl; have q5_12 := (hE.out.at_ 5 _ _ rfl).2.cell 12 _ rfl
  go_upto_region 14 with (first | ((with_reducible refine gate_bsl 38 ?_); refine wpList_bsl hE.out rfl (reqsC (wantQ ρ)) 56 3 (by kernel_rfl) ?_; intro V g hE'; replace hE := Aside0.mk hE'; clear hE'))
  rw [want_ack ρ p0.out p1.out] at hE
  go_upto_region 17 with (first | ((with_reducible refine gate_bsl 68 ?_); refine wpList_bsl hE.out rfl (#[.int .u16 (IntKind.u16.wrap (Go.bits .and .u8 v 56)), .int .u16 56, .int .u16 4660]) 22 3 (by kernel_rfl) ?_; intro V g hE'; replace hE := Aside0.mk hE'; clear hE'; have qi := (hE.out.at_ 0 _ _ rfl).2.cell 2 _ rfl; have q7_8 := (hE.out.at_ 7 _ _ rfl).2.cell 8 _ rfl; have q7_21 := (hE.out.at_ 7 _ _ rfl).2.cell 21 _ rfl; rw [him.out] at q7_21))
  clear q7_21 qi q7_8
  go_upto_region 18 with (first | ((with_reducible refine gate_bsl 38 ?_); refine wpList_bsl hE.out rfl (reqsC (twoQ ρ v)) 56 2 (by kernel_rfl) ?_; intro V g hE'; replace hE := Aside0.mk hE'; clear hE') | ((with_reducible refine gate_builtin (b := .append) (xs := #[.tmp 107, .tmp 113]) rfl ?_); at_builtin; refine wpList_appE hE.out 2 0 (ackQ ρ) (twoQ ρ v) 3 2 rfl rfl rfl rfl (by decide) (by decide) rfl (.tmp 107) (.tmp 113) rfl rfl rfl ?_; intro V g9 c9 hE' hc9; rw [two_five ρ v j0.out j1.out v0.out v1.out] at hE'; replace hE := Aside0.mk hE'; replace hc9 := Aside0.mk hc9; clear hE'))
  go_wp2_with (first | (go_at_call 32; refine (lreqsE hE.out (fiveQ ρ v) 4 0 5 rfl rfl rfl hlc.out hc9.out (by decide) (reqs_five ρ v)).mono ?_; rintro e V5 ⟨rfl, hE5⟩; replace hE := Aside0.mk hE5; clear hE5; (try clear q7_21 qi); have q4_12 := (hE.out.at_ 6 _ _ rfl).2.cell 12 (.int .u16 (IntKind.u16.wrap (ρ.sp - 2))) (by rw [← dec2]; rfl); have q4_13 := (hE.out.at_ 6 _ _ rfl).2.cell 13 _ rfl; have q4_14 := (hE.out.at_ 6 _ _ rfl).2.cell 14 _ rfl; have q7_12 := (hE.out.at_ 9 _ _ rfl).2.cell 12 _ rfl; have q4_19 := (hE.out.at_ 6 _ _ rfl).2.cell 19 _ rfl; have q4_20 := (hE.out.at_ 6 _ _ rfl).2.cell 20 _ rfl; have q4_22 := (hE.out.at_ 6 _ _ rfl).2.cell 22 _ rfl) | ((with_reducible refine gate_load 24 ?_); (try refine gate_guard (by rfl) ?_); (first | refine wpList_ld hE.out rfl 0 rfl 24 _ rfl rfl (ld24 _ _) ?_ | refine wpList_ld hE.out rfl 1 rfl 24 _ rfl rfl (ld24 _ _) ?_ | refine wpList_ld hE.out rfl 2 rfl 24 _ rfl rfl (ld24 _ _) ?_ | refine wpList_ld hE.out rfl 3 rfl 24 _ rfl rfl (ld24 _ _) ?_ | refine wpList_ld hE.out rfl 4 rfl 24 _ rfl rfl (ld24 _ _) ?_ | refine wpList_ld hE.out rfl 5 rfl 24 _ rfl rfl (ld24 _ _) ?_ | refine wpList_ld hE.out rfl 6 rfl 24 _ rfl rfl (ld24 _ _) ?_ | refine wpList_ld hE.out rfl 7 rfl 24 _ rfl rfl (ld24 _ _) ?_ | refine wpList_ld hE.out rfl 8 rfl 24 _ rfl rfl (ld24 _ _) ?_)) | (go_at_call 34; refine (lmay (backS ρ 4660) i0.out i2.out rfl _).mono ?_; rintro e V6 ⟨rfl, hb⟩; replace hE := Aside0.mk (hE.out.under hb); clear hb))
  go_ret
  exact ⟨rfl, hE.out.b⟩
theorem lstepHalts {W : World} {A : Option Addr} {l : List Int} {cp : Nat} {ρ : Rg} {v : Int} (hG : ∀ V, Below W.heap.size W V → Kd.C (Kd.int .u8) V A l.length l) (hcp : l.length ≤ cp) (hlr : ∀ x ∈ l, 0 ≤ x ∧ x < 256) (ht : Table W)
    (r0 : 0 ≤ ρ.r) (r1 : ρ.r < 256) (p0 : 0 ≤ ρ.pc) (p1 : ρ.pc < 65536) (v0 : 0 ≤ v) (v1 : v < 256) (j0 : 0 ≤ ρ.i) (j1 : ρ.i < 256) :
    Calls Tryz.prog 8 #[.agg ρ.vals, .int .u8 v, .slice A l.length cp] W fun e V => e = .returned (.bool true) ∧ Below W.heap.size W V := by
  cases hb : (decide (ρ.im < 0) || decide (ρ.im > 2)) with
  | true => exact lhalts_bad ht hb
  | false =>
    have h := Bool.or_eq_false_iff.1 hb
    have i0 : 0 ≤ ρ.im := by have := of_decide_eq_false h.1; omega
    have i2 : ρ.im ≤ 2 := by have := of_decide_eq_false h.2; omega
    by_cases hl : 40 < l.length
    · exact lhalts_long ht hb hl
    · have hl' : l.length ≤ 40 := by omega
      by_cases e0 : ρ.im = 0
      · exact lhalts0 hG hcp hlr ht i0 i2 e0 hb hl' r0 r1 p0 p1 v0 v1 j0 j1
      · by_cases e1 : ρ.im = 1
        · exact lhalts1 hG hcp hlr ht i0 i2 e1 hb hl' r0 r1 p0 p1 v0 v1 j0 j1
        · exact lhalts2 hG hcp hlr ht i0 i2 (by omega) hb hl' r0 r1 p0 p1 v0 v1 j0 j1
end Go.Proofs.YtnelghpendfdmaaGreatDoor.KRow
/-
  PROVED: pendulumlaw11.StepHalts answers true, over the arguments that the claim's row hands it.
-/
namespace Go.Proofs.YtnelghpendfdmaaGreatDoor.KRow
open Go Go.RowKit Go.Proofs.YtnelghpendfdmaaGreatDoorW.PrintWords
theorem haltsRow {W : World} {ρ : Rg} (w0 : RgOk ρ) {a1 : Int} (w1 : (Lit.int .u8 a1).wf = true) {b : Option Addr} {len cap : Nat} {z : List Int} (w2 : IsRow .u8 W b len cap z) (_y2 : len * 1 ≤ 140737488351232) (ht : Table W) :
    Calls Tryz.prog 8 #[.agg ρ.vals, .int .u8 a1, .slice b len cap] W fun e V => e = .returned (.bool true) ∧ Below W.heap.size W V := by
  obtain ⟨l, rfl, hG, hc, hr⟩ := row_bytes w2
  exact lstepHalts hG hc hr ht w0.r.1 w0.r.2 w0.pc.1 w0.pc.2 (wf8 w1).1 (wf8 w1).2 w0.i.1 w0.i.2
end Go.Proofs.YtnelghpendfdmaaGreatDoor.KRow
