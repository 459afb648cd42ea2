/-
  PROVED: the contract of pendulumlaw11.row.
-/
import Derived.Test.YtnelghpendfdmaaGreatDoorKRowE
namespace Go.Proofs.YtnelghpendfdmaaGreatDoor.KRow
open Go Go.RowKit Go.Proofs.YtnelghpendfdmaaGreatDoorW.PrintWords Go.Proofs.YtnelghpendfdmaaGreatDoorW.PrintLast Go.Proofs.YtnelghpendfdmaaGreatDoorW.PrintMore
open Go.Proofs.YtnelghpendfdmaaGreatDoor.HFun
set_option linter.unusedVariables false
set_option linter.unusedSimpArgs false
theorem R_rd {α : Type} {d : Kd α} {e : Nat} {w : World} {base : Nat} {ok : Nat → Prop} {A : Option Addr} {n c : Nat} {xs : List α} (h : d.R e w base ok (.slice A n c) xs) : xs.length ≤ c ∧ d.C w A xs.length xs := by
  obtain ⟨A', c', he, hl, hC⟩ := Kd.R_reads h
  cases he
  exact ⟨hl, hC⟩
def reqsL (xs : List S56) : List Value := xs.flatMap fun x => (s56c x).toList
def reqsC (xs : List S56) : Array Value := (reqsL xs).toArray
theorem reps_flat {w : World} {base : Nat} {ok : Nat → Prop} : ∀ (xs : List S56) (inner : List Value), Reps (k56.M w base ok) 4 xs inner → inner = reqsL xs
  | [], inner, h => List.eq_nil_of_length_eq_zero (by simpa using h.1)
  | x :: xs, inner, h => by
    have h0 := k56_openM (h.2 0 x rfl)
    rw [Nat.zero_mul, List.drop_zero] at h0
    have hl := h.1
    rw [List.length_cons] at hl
    have ht := reps_flat xs (inner.drop 4) ⟨by rw [List.length_drop]; omega, fun j p hp => by
      have := h.2 (j + 1) p (by simpa using hp)
      rw [List.drop_drop]
      rw [show 4 + j * 4 = (j + 1) * 4 by omega]
      exact this⟩
    rw [← List.take_append_drop 4 inner, h0, ht]
    rfl
theorem flat_get : ∀ (xs : List S56) (j i : Nat) (x : S56), xs[j]? = some x → i < 4 → (reqsL xs)[j * 4 + i]? = (s56c x).toList[i]?
  | [], j, i, x, h, _ => by simp at h
  | y :: xs, 0, i, x, h, hi => by
    obtain rfl : y = x := by simpa using h
    rw [Nat.zero_mul, Nat.zero_add]
    exact List.getElem?_append_left (by simpa [s56c, reqC] using hi)
  | y :: xs, j + 1, i, x, h, hi => by
    have := flat_get xs j i x (by simpa using h) hi
    rw [← this]
    show ((s56c y).toList ++ reqsL xs)[(j + 1) * 4 + i]? = _
    rw [List.getElem?_append_right (by simp [s56c, reqC]; omega)]
    congr 1
    simp [s56c, reqC]
    omega
theorem blk_reqs {V : World} {g : Nat} {xs : List S56} (h : BlkAt V g (reqsC xs)) (hm : xs.length ≤ 9223372036854775807) : k56.C V (some ⟨g, 0, none⟩) xs.length xs := by
  refine ⟨rfl, hm, fun _ => ⟨⟨g, 0, none⟩, rfl, fun j p hp => ⟨_, rfl, k56_mk V p, fun i u hu => ?_⟩⟩⟩
  have hi : i < 4 := by
    have := (List.getElem?_eq_some_iff.1 hu).1
    simpa using this
  have h1 := h.cell (j * 4 + i) u (by
    show (reqsL xs)[j * 4 + i]? = some u
    rw [flat_get xs j i p hp hi]
    exact hu)
  have hz : (⟨g, 0, none⟩ : Addr).add (j * 4 + i) = ⟨g, j * 4 + i, none⟩ := by
    by_cases h0 : j * 4 + i = 0
    · rw [h0]; rfl
    · simp [Addr.add]
      omega
  show V.cell? ((⟨g, 0, none⟩ : Addr).add (j * 4 + i)) = _
  rw [hz]
  exact h1
theorem R_own {w : World} {base : Nat} {ok : Nat → Prop} {A : Option Addr} {n c : Nat} {xs : List S56} (h : k56.R 56 w base ok (.slice A n c) xs) (hne : xs ≠ []) : ∃ g : Nat, A = some ⟨g, 0, none⟩ ∧ base ≤ g ∧ BlkAt w g (reqsC xs) := by
  obtain ⟨_, inner, ⟨h1, h2⟩, hr⟩ := h
  rcases h2 with ⟨_, e2⟩ | ⟨g, cap, cur, e1, hb, hh, _, _, hsz, ht⟩
  · exact absurd (List.eq_nil_of_length_eq_zero e2) hne
  · cases e1
    have hin := reps_flat xs inner hr
    refine ⟨g, rfl, hb, ⟨(Array.getElem?_eq_some_iff.1 hh).1, fun k v hk => ?_, fun k => ?_⟩⟩
    · have hk' : inner[k]? = some v := by rw [hin]; simpa [reqsC] using hk
      rw [← ht] at hk'
      have hk2 : cur[k]? = some v := by
        rw [List.getElem?_take] at hk'
        split at hk'
        · simpa using hk'
        · cases hk'
      simp only [World.cell?, hh]
      simpa using hk2
    · simp only [World.frozen?, hh]
      simp
theorem got_all {w0 V : World} {bs : List (Nat × Array Value)} {vo : Value} {out : List S56} {A : Option Addr} {c : Nat} {got : List Int} (h : EnvR w0 V bs vo out (.slice A got.length c) got) : got.length ≤ c ∧ ∀ V', Below V.heap.size V V' → Kd.C (Kd.int .u8) V' A got.length got :=
  ⟨(R_rd h.g).1, fun V' hb => Kd.C_below (R_rd h.g).2 hb⟩
def rowL (F : List Int → To) (l : List Int) : Nat → List S56 → List Int → Option (List S56 × List Int × Rg)
  | 0, _, _ => none
  | n + 1, out, got => if (F got).e = 0 then (if (F got).d = true then some (out, got, (F got).s) else rowL F l n (out ++ [⟨(F got).k, (F got).a, (F got).v, (F got).t⟩]) (got ++ [if got.length < l.length then rd l (got.length : Int) else 0])) else none
def RowRet (W : World) (out : List S56) (got : List Int) (s : Rg) (e : Ending) (V : World) : Prop :=
  Below W.heap.size W V ∧ ∃ A1 c1 A2 c2, e = .returned (.tuple #[.slice A1 out.length c1, .slice A2 got.length c2, .agg s.vals, .bool true]) ∧ out.length ≤ c1 ∧ (out ≠ [] → ∃ g1 : Nat, A1 = some ⟨g1, 0, none⟩ ∧ W.heap.size ≤ g1 ∧ BlkAt V g1 (reqsC out)) ∧ k56.C V A1 out.length out ∧ (Kd.int .u8).C V A2 got.length got
section
variable {w0 V V' : World} {bs : List (Nat × Array Value)} {vo vg : Value} {out : List S56} {got : List Int} {ops : Array Oper} {rest : List Oper} {op : Oper} {a : Act} {Q : Exit → Act → World → Prop}
theorem wpList_newR (h : EnvR w0 V bs vo out vg got) (hgd : op.guard = none) (cs : Array Value) (ty : TypeId) (hb : (execOp a.eval op).run Tryz.prog V = .ok (.value (.pointer (some ⟨V.heap.size, 0, none⟩))) (V.alloc (.cells cs ty)))
    (k : ∀ V' g, EnvR w0 V' ((g, cs) :: bs) vo out vg got → wpList Tryz.prog ops Q rest (a.put op.dst (.pointer (some ⟨g, 0, none⟩))) V') : wpList Tryz.prog ops Q (op :: rest) a V := by
  refine wpList_plain hgd fun _ hK => ?_
  unfold Oper.wp
  simp only [hb]
  exact hK _ _ (k _ _ (h.push cs ty))
theorem wpList_stR (h : EnvR w0 V bs vo out vg got) (hgd : op.guard = none) (i : Nat) {g : Nat} {cs : Array Value} (hi : bs[i]? = some (g, cs)) (ty : TypeId) (x y : Operand) (ho : op.op = .store ty x y) (cs' : Array Value)
    (hx : a.eval x = .pointer (some ⟨g, 0, none⟩)) (hy : a.eval y = .agg cs') (hsz : cs'.size = cs.size) (hinf : (Tryz.prog.info? ty).map (·.size) = some cs'.size) (hall : cs'.all (·.oneCell') = true)
    (k : ∀ V', EnvR w0 V' (bs.set i (g, cs')) vo out vg got → wpList Tryz.prog ops Q rest (a.put op.dst undef) V') : wpList Tryz.prog ops Q (op :: rest) a V :=
  wpList_bagg (h.env.at_ i g cs hi).2 hgd ty x y ho cs' hx hy hsz hinf hall (fun V' hk hc => k V' (h.put hi hk hc))
theorem wpList_ld8 (hgd : op.guard = none) (x : Operand) (ho : op.op = .load 5 x) {p : Addr} {v : Int} (hx : a.eval x = .pointer (some p)) (hc : V.cell? p = some (.int .u8 v)) (k : wpList Tryz.prog ops Q rest (a.put op.dst (.int .u8 v)) V) : wpList Tryz.prog ops Q (op :: rest) a V := by
  refine wpList_plain hgd fun _ hK => ?_
  have hrun : (execOp a.eval op).run Tryz.prog V = .ok (.value (.int .u8 v)) V := by
    unfold execOp
    simp only [ho, hx]
    simp [go_sem, hc]
  unfold Oper.wp
  simp only [hrun]
  exact hK _ _ k
theorem wpList_bslA (hgd : op.guard = none) (cs : Array Value) (ty : TypeId) (n : Nat) (hb : (execOp a.eval op).run Tryz.prog V = .ok (.value (.slice (some ⟨V.heap.size, 0, none⟩) n n)) (V.alloc (.cells cs ty)))
    (k : wpList Tryz.prog ops Q rest (a.put op.dst (.slice (some ⟨V.heap.size, 0, none⟩) n n)) (V.alloc (.cells cs ty))) : wpList Tryz.prog ops Q (op :: rest) a V := by
  refine wpList_plain hgd fun _ hK => ?_
  unfold Oper.wp
  simp only [hb]
  exact hK _ _ k
theorem Env.join (h : Env w0 V bs) (hb : Below V.heap.size V V') {g : Nat} {cs : Array Value} (hg : V.heap.size ≤ g) (hB : BlkAt V' g cs) : Env w0 V' ((g, cs) :: bs) := by
  have hu := h.under hb
  have hs := h.size
  refine ⟨hu.b, fun j g' c hj => ?_, fun i j g' c1 c2 hi hj => ?_⟩
  · cases j with
    | zero => simp only [List.getElem?_cons_zero, Option.some.injEq, Prod.mk.injEq] at hj; obtain ⟨rfl, rfl⟩ := hj; exact ⟨by omega, hB⟩
    | succ j => exact hu.at_ j g' c (by simpa using hj)
  · cases i with
    | zero =>
      simp only [List.getElem?_cons_zero, Option.some.injEq, Prod.mk.injEq] at hi
      cases j with
      | zero => rfl
      | succ j => have := h.lt (j := j) (g := g') (cs := c2) (by simpa using hj); omega
    | succ i =>
      cases j with
      | zero =>
        simp only [List.getElem?_cons_zero, Option.some.injEq, Prod.mk.injEq] at hj
        have := h.lt (j := i) (g := g') (cs := c1) (by simpa using hi); omega
      | succ j => exact congrArg (· + 1) (h.ne i j g' c1 c2 (by simpa using hi) (by simpa using hj))
theorem Env.drop (h : Env w0 V bs) (n : Nat) : Env w0 V (bs.drop n) :=
  ⟨h.b, fun j g cs hj => h.at_ (n + j) g cs (by rw [← List.getElem?_drop]; exact hj), fun i j g c1 c2 hi hj => by
    have := h.ne (n + i) (n + j) g c1 c2 (by rw [← List.getElem?_drop]; exact hi) (by rw [← List.getElem?_drop]; exact hj)
    omega⟩
theorem Env.dropE {x y : Nat × Array Value} (h : Env w0 V [x, y]) : Env w0 V [x] := ⟨h.b, fun j g cs hj => h.at_ j g cs (by cases j with | zero => simpa using hj | succ j => simp at hj), fun i j g c1 c2 hi hj => by cases i with | succ i => simp at hi | zero => (cases j with | zero => rfl | succ j => simp at hj)⟩
theorem EnvR.drop (h : EnvR w0 V bs vo out vg got) (n : Nat) : EnvR w0 V (bs.drop n) vo out vg got :=
  ⟨h.env.drop n, Kd.R_mono h.o (fun k hk j g cs hj => hk (n + j) g cs (by rw [← List.getElem?_drop]; exact hj)), Kd.R_mono h.g (fun k hk j g cs hj => hk (n + j) g cs (by rw [← List.getElem?_drop]; exact hj))⟩
end
set_option maxHeartbeats 16000000 in
set_option maxRecDepth 100000 in
theorem lrow0 {W : World} {A : Option Addr} {l : List Int} {cp : Nat} {ρ : Rg} {peek : Int} (hG : ∀ V, Below W.heap.size W V → Kd.C (Kd.int .u8) V A l.length l) (hcp : l.length ≤ cp) (hlr : ∀ x ∈ l, 0 ≤ x ∧ x < 256) (ht : Table W) (i0 : 0 ≤ ρ.im) (i2 : ρ.im ≤ 2) {out : List S56} {got : List Int} {s : Rg} (H : rowL (nx ρ peek) l 11 [] [] = some (out, got, s)) :
    Calls Tryz.prog 31 #[.agg ρ.vals, .slice A l.length cp, .int .u8 peek, .bool false] W (RowRet W out got s) := by
  obtain ⟨k, hk⟩ : ∃ k, k = 11 := ⟨11, rfl⟩
  rw [← hk] at H
  have hE := Aside0.mk (Env.nil W)
  have hG := Aside0.mk hG
  have ht := Aside0.mk ht
  have hlr := Aside0.mk hlr
  have i0 := Aside0.mk i0
  have i2 := Aside0.mk i2
  have hcp := Aside0.mk hcp
  have H' := Aside0.mk H
  have hk' := Aside0.mk hk
  clear H hk
  go_enter Tryz.func31, Tryz.ntmps31
  go_wp2_with (first | ((with_reducible refine gate_box 24 ?_); refine wpList_new hE.out rfl (Rg.vals _) 24 rfl ?_; intro V g4 hE'; replace hE := Aside0.mk hE'; clear hE') | ((with_reducible refine gate_alloc 24 ?_); refine wpList_new hE.out rfl (zeroRg.vals) 24 (by kernel_rfl) ?_; intro V g10 hE'; replace hE := Aside0.mk hE'; clear hE'))
  go_loopg [12, 13] k (fun kq v12 v13 w' => ∃ (x : List S56) (y : List Int), Aside0 (rowL (nx ρ peek) l kq x y = some (out, got, s)) ∧ Aside0 (kq + x.length = 11 ∧ y.length = x.length ∧ ∀ z ∈ y, 0 ≤ z ∧ z < 256) ∧ Aside0 (EnvR W w' [(g10, zeroRg.vals), (g4, ρ.vals)] v12 x v13 y))
  case atStart => exact ⟨[], [], H', ⟨by have := hk'.out; simp [this]⟩, ⟨EnvR.start hE.out⟩⟩
  case round =>
    obtain ⟨x, y, HA, HL, hE⟩ := hrel
    cases gk with
    | zero => exact absurd HA.out (by simp [rowL])
    | succ k1 =>
      have hx10 : decide ((x.length : Int) ≤ 10) = true := decide_eq_true (by have := HL.out; omega)
      have H := HA.out
      unfold rowL at H
      by_cases he : (nx ρ peek y).e = 0
      case neg => rw [if_neg he] at H; cases H
      rw [if_pos he] at H
      obtain ⟨c, hc⟩ : ∃ c, nx ρ peek y = c := ⟨_, rfl⟩
      rw [hc] at H he
      obtain ⟨ck, ca, cv, ct, cs, cd, ce⟩ := c
      simp only at he
      subst he
      obtain ⟨Ao, co, eo, _, _⟩ := Kd.R_reads hE.out.o
      subst eo
      obtain ⟨Ag, cg, eg, _, _⟩ := Kd.R_reads hE.out.g
      subst eg
      replace hc := Aside0.mk hc
      clear HA
      cases cd
      · rw [if_neg (by simp)] at H
        simp only at H
        by_cases hlt : y.length < l.length
        · rw [if_pos hlt] at H
          obtain ⟨ad, ea, _⟩ := Kd.at_int (hG.out _ (Below.refl _ _)) (y.length : Int) (by omega) (by omega)
          subst ea
          have hcell : ∀ V, Below W.heap.size W V → V.cell? (ad.add y.length) = some (.int .u8 (rd l y.length)) := fun V hb => by
            obtain ⟨ad', e', h'⟩ := Kd.at_int (hG.out V hb) (y.length : Int) (by omega) (by omega)
            cases e'
            simpa using h'
          have hbb : 0 ≤ rd l y.length ∧ rd l y.length < 256 := hlr.out _ (by
            have : rd l (y.length : Int) = l[y.length] := by simp [rd, hlt]
            rw [this]; exact List.getElem_mem hlt)
          replace hcell := Aside0.mk hcell
          replace hbb := Aside0.mk hbb
          have hdl : decide ((y.length : Int) < l.length) = true := decide_eq_true (by omega)
          replace H := Aside0.mk H
          go_wp2_with (first | (go_at_call 29; refine (nextAll (gl := y) (A := Ag) (cp := cg) (ρ := ρ) (peek := peek) (got_all hE.out).2 (got_all hE.out).1 HL.out.2.2 (env_tab hE.out.env ht.out) i0.out i2.out).mono ?_; rintro e V2 ⟨rfl, hb⟩; have hc2 := hc.out; unfold nx at hc2; rw [hc2]; clear hc2; replace hE := Aside0.mk (hE.out.under hb); clear hb; dsimp only [To.val]) | ((with_reducible refine gate_alloc 56 ?_); refine wpList_newR hE.out rfl (reqC 0 0 0 0) 56 (by kernel_rfl) ?_; intro V g hE'; replace hE := Aside0.mk hE'; clear hE') | ((with_reducible refine gate_alloc 24 ?_); refine wpList_newR hE.out rfl (zeroRg.vals) 24 (by kernel_rfl) ?_; intro V g hE'; replace hE := Aside0.mk hE'; clear hE') | ((with_reducible refine gate_load 24 ?_); (try refine gate_guard (by rfl) ?_); (first | refine wpList_ld hE.out.env rfl 0 rfl 24 _ rfl rfl (ld24 _ _) ?_ | refine wpList_ld hE.out.env rfl 1 rfl 24 _ rfl rfl (ld24 _ _) ?_ | refine wpList_ld hE.out.env rfl 2 rfl 24 _ rfl rfl (ld24 _ _) ?_ | refine wpList_ld hE.out.env rfl 3 rfl 24 _ rfl rfl (ld24 _ _) ?_)) | ((with_reducible refine gate_store 56 ?_); (first | refine wpList_stR hE.out rfl 0 rfl 56 _ _ rfl _ rfl rfl rfl (by kernel_rfl) (reqC_one _ _ _ _) ?_ | refine wpList_stR hE.out rfl 1 rfl 56 _ _ rfl _ rfl rfl rfl (by kernel_rfl) (reqC_one _ _ _ _) ?_); intro V hE'; (try dsimp only [List.set_cons_zero, List.set_cons_succ] at hE'); replace hE := Aside0.mk hE'; clear hE') | ((with_reducible refine gate_store 24 ?_); (first | refine wpList_stR hE.out rfl 0 rfl 24 _ _ rfl _ rfl rfl rfl (by kernel_rfl) (vals_one _) ?_ | refine wpList_stR hE.out rfl 1 rfl 24 _ _ rfl _ rfl rfl rfl (by kernel_rfl) (vals_one _) ?_ | refine wpList_stR hE.out rfl 2 rfl 24 _ _ rfl _ rfl rfl rfl (by kernel_rfl) (vals_one _) ?_); intro V hE'; (try dsimp only [List.set_cons_zero, List.set_cons_succ] at hE'); replace hE := Aside0.mk hE'; clear hE') | ((with_reducible refine gate_load 56 ?_); (try refine gate_guard (by rfl) ?_); (first | refine wpList_ld hE.out.env rfl 0 rfl 56 _ rfl rfl (ld56 _ _ _ _ _) ?_ | refine wpList_ld hE.out.env rfl 1 rfl 56 _ rfl rfl (ld56 _ _ _ _ _) ?_)) | ((with_reducible refine gate_builtin (b := .append) (xs := #[.tmp 57, .tmp 59]) rfl ?_); at_builtin; refine wpList_app56 hE.out ⟨ck, ca, cv, ct⟩ rfl (.tmp 57) (.tmp 59) rfl rfl rfl (by have := HL.out; omega) ?_; intro v1 V3 hE'; replace hE := Aside0.mk hE'; clear hE') | ((with_reducible refine gate_builtin (b := .append) (xs := #[.tmp 61, .tmp 63]) rfl ?_); at_builtin; refine wpList_app8 hE.out (rd l y.length) rfl (.tmp 61) (.tmp 63) rfl rfl rfl (by have := HL.out; omega) ?_; intro v2 V3 hE'; replace hE := Aside0.mk hE'; clear hE') | ((with_reducible refine gate_load 5 ?_); refine wpList_ld8 rfl _ rfl rfl (hcell.out _ hE.out.env.b) ?_) | ((with_reducible refine gate_bsl 38 ?_); refine wpList_bslA rfl (s56c ⟨ck, ca, cv, ct⟩) 56 1 (by kernel_rfl) ?_) | ((with_reducible refine gate_bsl 25 ?_); refine wpList_bslA rfl #[.int .u8 (rd l y.length)] 5 1 (by kernel_rfl) ?_))
          go_roundg k1
          case measure => omega
          case rel => exact ⟨_, _, H, ⟨by have h3 := HL.out; refine ⟨by simp; omega, by simp; omega, fun z hz => ?_⟩; rcases List.mem_append.1 hz with h | h; exact h3.2.2 z h; rw [List.mem_singleton.1 h]; exact hbb.out⟩, ⟨hE.out.drop 2⟩⟩
        · rw [if_neg hlt] at H
          have hdl : decide ((y.length : Int) < l.length) = false := decide_eq_false (by omega)
          replace H := Aside0.mk H
          go_wp2_with (first | (go_at_call 29; refine (nextAll (gl := y) (A := Ag) (cp := cg) (ρ := ρ) (peek := peek) (got_all hE.out).2 (got_all hE.out).1 HL.out.2.2 (env_tab hE.out.env ht.out) i0.out i2.out).mono ?_; rintro e V2 ⟨rfl, hb⟩; have hc2 := hc.out; unfold nx at hc2; rw [hc2]; clear hc2; replace hE := Aside0.mk (hE.out.under hb); clear hb; dsimp only [To.val]) | ((with_reducible refine gate_alloc 56 ?_); refine wpList_newR hE.out rfl (reqC 0 0 0 0) 56 (by kernel_rfl) ?_; intro V g hE'; replace hE := Aside0.mk hE'; clear hE') | ((with_reducible refine gate_alloc 24 ?_); refine wpList_newR hE.out rfl (zeroRg.vals) 24 (by kernel_rfl) ?_; intro V g hE'; replace hE := Aside0.mk hE'; clear hE') | ((with_reducible refine gate_load 24 ?_); (try refine gate_guard (by rfl) ?_); (first | refine wpList_ld hE.out.env rfl 0 rfl 24 _ rfl rfl (ld24 _ _) ?_ | refine wpList_ld hE.out.env rfl 1 rfl 24 _ rfl rfl (ld24 _ _) ?_ | refine wpList_ld hE.out.env rfl 2 rfl 24 _ rfl rfl (ld24 _ _) ?_ | refine wpList_ld hE.out.env rfl 3 rfl 24 _ rfl rfl (ld24 _ _) ?_)) | ((with_reducible refine gate_store 56 ?_); (first | refine wpList_stR hE.out rfl 0 rfl 56 _ _ rfl _ rfl rfl rfl (by kernel_rfl) (reqC_one _ _ _ _) ?_ | refine wpList_stR hE.out rfl 1 rfl 56 _ _ rfl _ rfl rfl rfl (by kernel_rfl) (reqC_one _ _ _ _) ?_); intro V hE'; (try dsimp only [List.set_cons_zero, List.set_cons_succ] at hE'); replace hE := Aside0.mk hE'; clear hE') | ((with_reducible refine gate_store 24 ?_); (first | refine wpList_stR hE.out rfl 0 rfl 24 _ _ rfl _ rfl rfl rfl (by kernel_rfl) (vals_one _) ?_ | refine wpList_stR hE.out rfl 1 rfl 24 _ _ rfl _ rfl rfl rfl (by kernel_rfl) (vals_one _) ?_ | refine wpList_stR hE.out rfl 2 rfl 24 _ _ rfl _ rfl rfl rfl (by kernel_rfl) (vals_one _) ?_); intro V hE'; (try dsimp only [List.set_cons_zero, List.set_cons_succ] at hE'); replace hE := Aside0.mk hE'; clear hE') | ((with_reducible refine gate_load 56 ?_); (try refine gate_guard (by rfl) ?_); (first | refine wpList_ld hE.out.env rfl 0 rfl 56 _ rfl rfl (ld56 _ _ _ _ _) ?_ | refine wpList_ld hE.out.env rfl 1 rfl 56 _ rfl rfl (ld56 _ _ _ _ _) ?_)) | ((with_reducible refine gate_builtin (b := .append) (xs := #[.tmp 57, .tmp 59]) rfl ?_); at_builtin; refine wpList_app56 hE.out ⟨ck, ca, cv, ct⟩ rfl (.tmp 57) (.tmp 59) rfl rfl rfl (by have := HL.out; omega) ?_; intro v1 V3 hE'; replace hE := Aside0.mk hE'; clear hE') | ((with_reducible refine gate_builtin (b := .append) (xs := #[.tmp 61, .tmp 63]) rfl ?_); at_builtin; refine wpList_app8 hE.out (0) rfl (.tmp 61) (.tmp 63) rfl rfl rfl (by have := HL.out; omega) ?_; intro v2 V3 hE'; replace hE := Aside0.mk hE'; clear hE') | ((with_reducible refine gate_bsl 38 ?_); refine wpList_bslA rfl (s56c ⟨ck, ca, cv, ct⟩) 56 1 (by kernel_rfl) ?_) | ((with_reducible refine gate_bsl 25 ?_); refine wpList_bslA rfl #[.int .u8 (0)] 5 1 (by kernel_rfl) ?_))
          go_roundg k1
          case measure => omega
          case rel => exact ⟨_, _, H, ⟨by have h3 := HL.out; refine ⟨by simp; omega, by simp; omega, fun z hz => ?_⟩; rcases List.mem_append.1 hz with h | h; exact h3.2.2 z h; rw [List.mem_singleton.1 h]; decide⟩, ⟨hE.out.drop 2⟩⟩
      · rw [if_pos rfl] at H
        simp only [Option.some.injEq, Prod.mk.injEq] at H
        obtain ⟨e1, e2, e3⟩ := H
        subst e1
        subst e2
        subst e3
        clear H'
        go_wp2_with (first | (go_at_call 29; refine (nextAll (gl := y) (A := Ag) (cp := cg) (ρ := ρ) (peek := peek) (got_all hE.out).2 (got_all hE.out).1 HL.out.2.2 (env_tab hE.out.env ht.out) i0.out i2.out).mono ?_; rintro e V2 ⟨rfl, hb⟩; have hc2 := hc.out; unfold nx at hc2; rw [hc2]; clear hc2; replace hE := Aside0.mk (hE.out.under hb); clear hb; dsimp only [To.val]) | ((with_reducible refine gate_alloc 56 ?_); refine wpList_newR hE.out rfl (reqC 0 0 0 0) 56 (by kernel_rfl) ?_; intro V g hE'; replace hE := Aside0.mk hE'; clear hE') | ((with_reducible refine gate_alloc 24 ?_); refine wpList_newR hE.out rfl (zeroRg.vals) 24 (by kernel_rfl) ?_; intro V g hE'; replace hE := Aside0.mk hE'; clear hE') | ((with_reducible refine gate_load 24 ?_); (try refine gate_guard (by rfl) ?_); (first | refine wpList_ld hE.out.env rfl 0 rfl 24 _ rfl rfl (ld24 _ _) ?_ | refine wpList_ld hE.out.env rfl 1 rfl 24 _ rfl rfl (ld24 _ _) ?_ | refine wpList_ld hE.out.env rfl 2 rfl 24 _ rfl rfl (ld24 _ _) ?_ | refine wpList_ld hE.out.env rfl 3 rfl 24 _ rfl rfl (ld24 _ _) ?_)) | ((with_reducible refine gate_store 56 ?_); (first | refine wpList_stR hE.out rfl 0 rfl 56 _ _ rfl _ rfl rfl rfl (by kernel_rfl) (reqC_one _ _ _ _) ?_ | refine wpList_stR hE.out rfl 1 rfl 56 _ _ rfl _ rfl rfl rfl (by kernel_rfl) (reqC_one _ _ _ _) ?_); intro V hE'; (try dsimp only [List.set_cons_zero, List.set_cons_succ] at hE'); replace hE := Aside0.mk hE'; clear hE') | ((with_reducible refine gate_store 24 ?_); (first | refine wpList_stR hE.out rfl 0 rfl 24 _ _ rfl _ rfl rfl rfl (by kernel_rfl) (vals_one _) ?_ | refine wpList_stR hE.out rfl 1 rfl 24 _ _ rfl _ rfl rfl rfl (by kernel_rfl) (vals_one _) ?_ | refine wpList_stR hE.out rfl 2 rfl 24 _ _ rfl _ rfl rfl rfl (by kernel_rfl) (vals_one _) ?_); intro V hE'; (try dsimp only [List.set_cons_zero, List.set_cons_succ] at hE'); replace hE := Aside0.mk hE'; clear hE') | ((with_reducible refine gate_load 56 ?_); (try refine gate_guard (by rfl) ?_); (first | refine wpList_ld hE.out.env rfl 0 rfl 56 _ rfl rfl (ld56 _ _ _ _ _) ?_ | refine wpList_ld hE.out.env rfl 1 rfl 56 _ rfl rfl (ld56 _ _ _ _ _) ?_)) | ((with_reducible refine gate_region 10 ?_); (refine region_sch (fun V => Env W V [_]) [(0, 0), (1, 0), (3, 0), (4, 0), (2, 1)] [5, 6] [5, 6] 7 (by kernel_rfl) rfl rfl (by kernel_rfl) (by intro c a d v w h; cases d <;> exact h) (((hE.out.env.drewN 1).two (i := 0) (j := 1) rfl rfl (by decide)).dropE) ?_); replace hE := Aside0.mk (hE.out.drewN 1); have hS0 := (hE.out.env.two (i := 0) (j := 1) rfl rfl (by decide)).dropE; (repeat ((first | (refine Sch.pureN (v := ?_) (a' := ?_) rfl rfl (by rfl) ?_ ?_ ?_; rotate_left 2; (· (intro w'; go_simp <;> with_reducible rfl))) | (refine Sch.takeN (a' := ?_) rfl rfl (by rfl) hS0 (fun w' hS' => hS'.run 0 rfl rfl rfl (ld24 _ _)) ?_ ?_; rotate_left)); (· (simp only [Act.put, List.setIfInBounds_toArray, List.set_cons_zero, List.set_cons_succ, i64_w, i32_w] <;> rfl)))); (refine Sch.tail 5 2 rfl rfl ?_; simp only [List.drop_succ_cons, List.drop_zero, List.drop_nil])))
        have r2 := run_loadVar_mid (P := Tryz.prog) _ _ 0 24 (Rg.vals _).toList _ (hE.out.env.at_ 2 _ _ rfl).2.range Tryz.underlying24 rfl info24
        refine bodyPost_ret (v := .tuple #[.slice Ao x.length co, .slice Ag y.length cg, .agg cs.vals, .bool true]) ?_ rfl ⟨hE.out.env.b, Ao, co, Ag, cg, rfl, (R_rd hE.out.o).1, R_own hE.out.o, (R_rd hE.out.o).2, (R_rd hE.out.g).2⟩
        simp [results, Tryz.results31, asAddr, r2, Act.put]
end Go.Proofs.YtnelghpendfdmaaGreatDoor.KRow
