-- Written by a program of this session out of Lean's print of the program (after the form of the kit's print.sh, with own turns); Lean checks it.
import Derived.SizedLaws
import Derived.ChangeSlices
import Derived.Test.YtnelghpendfdmaaGreatDoorKLa
namespace Go.Proofs.YtnelghpendfdmaaGreatDoor.HFun
open Go.RowKit Go.Proofs.YtnelghpendfdmaaGreatDoorW.PrintWords Go.Proofs.YtnelghpendfdmaaGreatDoorW.PrintLast Go.Proofs.YtnelghpendfdmaaGreatDoorW.PrintMore
attribute [local go_sem] max2_int min2_int max_two min_two max_three min_three max_four min_four   -- for this text's walks alone
set_option linter.unusedVariables false
set_option linter.unusedSimpArgs false
theorem eqA56 (d : Nat) (w : World) (x0 y0 : Int) (x1 y1 : Int) (x2 y2 : Int) (x3 y3 : Int) :
  (Op.equalIn (d + 2) 56 (.agg #[.int .i64 x0,.int .u16 x1,.int .u8 x2,.int .i64 x3]) (.agg #[.int .i64 y0,.int .u16 y1,.int .u8 y2,.int .i64 y3])).run Tryz.prog w = .ok (x0 == y0 && (x1 == y1 && (x2 == y2 && (x3 == y3)))) w :=by
 refine eqA_of Tryz.underlying56 (by kernel_rfl) ?_
 refine eqf_cons (by rfl) (by go_simp;rfl) (by go_simp;rfl) (by go_simp) ?_
 refine eqf_cons (by rfl) (by go_simp;rfl) (by go_simp;rfl) (by go_simp) ?_
 refine eqf_cons (by rfl) (by go_simp;rfl) (by go_simp;rfl) (by go_simp) ?_
 exact eqf_last (by rfl) (by go_simp;rfl) (by go_simp;rfl) (by go_simp)
end Go.Proofs.YtnelghpendfdmaaGreatDoor.HFun
namespace Go.Proofs.YtnelghpendfdmaaGreatDoorW.PrintWords
open Go.ChangeShapes Go.WideShapes
/-- A row's slice of whole numbers is no longer than its weight allows. -/
theorem sized_ints {H : Type} {enc : TypeId × Value → H} {P : Program} {W : World} {base : Nat} {spare : Nat → Bool} {held : Bool} {t e : TypeId} {k : IntKind} {a : Option Addr} {len cap : Nat} {d : DataW H} {ps : List MemPlace} {ts : List TypeId} {ds : List (DataW H)} {j : Nat}
  (hsz : (DataW.weightsEach P ts ds).all (· ≤ reachBytes) = true) (ht : ts[j]? = some t) (hd : ds[j]? = some d) (hu : P.underlying t = some (.slice e)) (he : P.underlying e = some (.int k)) (hc : P.cellsOf e = 1) {B : Nat} (hB : P.bytesOf e = B)
  (h : DataW.Trod enc P W base spare held t (.slice a len cap) d ps) : len * B ≤ 140737488351232 :=by
 obtain ⟨fuel,hf⟩ :=h
 rcases open_ints hu he hc hf with ⟨hcs,_⟩ | ⟨x,l,c,zs,hcs,_,hl,_,hz,hx,_,_⟩
 ·simp [Value.cells] at hcs
  obtain ⟨rfl,rfl,rfl⟩ :=hcs
  simp
 ·simp [Value.cells] at hcs
  obtain ⟨rfl,rfl,rfl⟩ :=hcs
  obtain ⟨hx,_⟩ :=Prod.mk.inj hx
  subst hx
  have z :=sized_slice hsz ht hd hu
  rw [hB] at z
  have hl2 : len ≤ zs.length :=by
   rw [hz]
   split
   ·exact hl
   ·exact Nat.le_refl _
  have h1 : (lits (H :=H) k (zs.take len)).length + (lits (H :=H) k (zs.drop len)).length = zs.length :=by
   simp [lits]
   omega
  rw [h1] at z
  exact Nat.le_trans (Nat.mul_le_mul_right _ hl2) z
end Go.Proofs.YtnelghpendfdmaaGreatDoorW.PrintWords
namespace Go.Proofs.YtnelghpendfdmaaGreatDoor.KRow
open Go Go.RowKit Go.Proofs.YtnelghpendfdmaaGreatDoorW.PrintWords Go.Proofs.YtnelghpendfdmaaGreatDoorW.PrintLast Go.Proofs.YtnelghpendfdmaaGreatDoorW.PrintMore
open Go.Proofs.YtnelghpendfdmaaGreatDoor.HFun
set_option linter.unusedVariables false
def isZ : Value → Bool
 | .int .u8 n => n == 0
 | _ => false
def chkZ : Nat → List Value → Bool
 | 0,[.bool b] => !b
 | n + 1,v :: l => isZ v && chkZ n l
 | _,_ => false
noncomputable def zl80 : List Value :=match Tryz.t80.zero with | some (.agg a) => a.toList | _ => []
set_option maxRecDepth 1000000 in
theorem zl80_chk : chkZ 65536 (zl80.drop 24) = true :=by decide +kernel
theorem chkZ_spec : ∀ (n : Nat) (l : List Value),chkZ n l = true → l.length = n + 1 ∧ (∀ k,k < n → l[k]? = some (.int .u8 0)) ∧ l[n]? = some (.bool false) :=by
 intro n
 induction n with
 | zero =>
  intro l h
  match l,h with
  | [.bool b],h =>
   simp [chkZ] at h
   subst h
   exact ⟨rfl,fun k hk => absurd hk (by omega),rfl⟩
 | succ n ih =>
  intro l h
  match l,h with
  | v :: l,h =>
   simp only [chkZ,Bool.and_eq_true] at h
   obtain ⟨h1,h2,h3⟩ :=ih l h.2
   have hv : v = .int .u8 0 :=by
    have h4 :=h.1
    unfold isZ at h4
    split at h4
    ·simp at h4;subst h4;rfl
    ·cases h4
   refine ⟨by simp [h1],fun k hk => ?_,by simpa using h3⟩
   match k with
   | 0 => simp [hv]
   | k + 1 => simpa using h2 k (by omega)
theorem zl80_len : zl80.length = 65561 :=by
 have :=(chkZ_spec _ _ zl80_chk).1
 rw [List.length_drop] at this
 omega
theorem zl80_get (k : Nat) (hk : k < 65536) : zl80[24 + k]? = some (.int .u8 0) :=by
 have :=(chkZ_spec _ _ zl80_chk).2.1 k hk
 rwa [List.getElem?_drop] at this
theorem info80 : Tryz.prog.info? 80 = some Tryz.t80 :=by kernel_rfl
theorem zero80 : Tryz.t80.zero = some (.agg zl80.toArray) :=by kernel_rfl
theorem foldl_set : ∀ (vs : List Value) (o : Nat) (cs : Array Value) (k : Nat),((vs.zipIdx o).foldl (fun (cs : Array Value) (x : Value × Nat) => cs.setIfInBounds x.2 x.1) cs)[k]? = if o ≤ k ∧ k < o + vs.length ∧ k < cs.size then vs[k - o]? else cs[k]? :=by
 intro vs
 induction vs with
 | nil => intro o cs k;simp;omega
 | cons v r ih =>
  intro o cs k
  simp only [List.zipIdx_cons,List.foldl_cons]
  rw [ih]
  simp only [Array.size_setIfInBounds,List.length_cons]
  by_cases h1 : k = o
  ·subst h1
   rw [if_neg (by omega)]
   by_cases h2 : k < cs.size
   ·rw [if_pos ⟨Nat.le_refl _,by omega,h2⟩]
    simp [h2]
   ·rw [if_neg (by omega)]
    rw [Array.getElem?_eq_none (by simpa using h2),Array.getElem?_eq_none (by omega)]
  ·by_cases h2 : o + 1 ≤ k ∧ k < o + 1 + r.length ∧ k < cs.size
   ·rw [if_pos h2,if_pos (by omega)]
    have : k - o = (k - (o + 1)) + 1 :=by omega
    rw [this]
    simp
   ·rw [if_neg h2,if_neg (by omega)]
    exact Array.getElem?_setIfInBounds_ne (Ne.symm h1)
set_option linter.unusedSimpArgs false
theorem info5c : (Tryz.prog.info? 5).map (fun i => (i.zero,i.size,i.bytes)) = some (some (.int .u8 0),1,1) :=by kernel_rfl
theorem info56c : (Tryz.prog.info? 56).map (fun i => (i.zero,i.size,i.bytes)) = some (some (.agg #[(.int .i64 0),(.int .u16 0),(.int .u8 0),(.int .i64 0)]),4,24) :=by kernel_rfl
def s56c (x : S56) : Array Value :=reqC x.f0 x.f1 x.f2 x.f3
def OffB (bs : List (Nat × Array Value)) (k : Nat) : Prop :=∀ (j g : Nat) (cs : Array Value),bs[j]? = some (g,cs) → k ≠ g
structure EnvR (w0 V : World) (bs : List (Nat × Array Value)) (vo : Value) (out : List S56) (vg : Value) (got : List Int) : Prop where
 env : Env w0 V bs
 o : k56.R 56 V w0.heap.size (OffB bs) vo out
 g : (Kd.int .u8).R 5 V w0.heap.size (OffB bs) vg got
section
variable {w0 V V' : World} {bs : List (Nat × Array Value)} {vo vg : Value} {out : List S56} {got : List Int}
theorem EnvR.start (h : Env w0 V bs) : EnvR w0 V bs (.slice none 0 0) [] (.slice none 0 0) [] :=⟨h,Kd.R_nil _ _ _ _ _,Kd.R_nil _ _ _ _ _⟩
theorem EnvR.under (h : EnvR w0 V bs vo out vg got) (hb : Below V.heap.size V V') : EnvR w0 V' bs vo out vg got :=⟨h.env.under hb,Kd.R_below h.o hb,Kd.R_below h.g hb⟩
theorem EnvR.drewN (h : EnvR w0 V bs vo out vg got) (m : Nat) : EnvR w0 (V.drewN m) bs vo out vg got :=h.under (pw_below_drewN (Below.refl _ _) m)
theorem offB_push {n : Nat} {k : Nat} {cs : Array Value} (h : OffB bs k) (hk : k < n) : OffB ((n,cs) :: bs) k :=fun j g c hj => by
 cases j with
 | zero => simp only [List.getElem?_cons_zero,Option.some.injEq,Prod.mk.injEq] at hj;omega
 | succ j => exact h j g c (by simpa using hj)
theorem EnvR.push (h : EnvR w0 V bs vo out vg got) (cs : Array Value) (ty : TypeId) : EnvR w0 (V.alloc (.cells cs ty)) ((V.heap.size,cs) :: bs) vo out vg got :=
 ⟨h.env.push cs ty,Kd.R_alloc (Kd.R_mono (Kd.R_bound h.o) (fun k hk => offB_push hk.1 hk.2.2.1)) _,Kd.R_alloc (Kd.R_mono (Kd.R_bound h.g) (fun k hk => offB_push hk.1 hk.2.2.1)) _⟩
theorem offB_set {i g : Nat} {cs cs' : Array Value} {k : Nat} (hi : bs[i]? = some (g,cs)) (h : OffB bs k) : OffB (bs.set i (g,cs')) k :=fun j g' c hj => by
 rw [List.getElem?_set] at hj
 by_cases e : i = j
 ·subst e
  have hlt : i < bs.length :=(List.getElem?_eq_some_iff.1 hi).1
  simp only [if_true,hlt,Option.some.injEq,Prod.mk.injEq] at hj
  obtain ⟨rfl,rfl⟩ :=hj
  exact h i g cs hi
 ·rw [if_neg e] at hj;exact h j g' c hj
theorem EnvR.put (h : EnvR w0 V bs vo out vg got) {i g : Nat} {cs cs' : Array Value} (hi : bs[i]? = some (g,cs)) (hk : Kp g V V') (hc : BlkAt V' g cs') : EnvR w0 V' (bs.set i (g,cs')) vo out vg got :=
 ⟨h.env.put hi hk hc,Kd.R_mono (Kd.R_step h.o (fun k ho hlt => hk.block k hlt (ho i g cs hi))) (fun k => offB_set hi),Kd.R_mono (Kd.R_step h.g (fun k ho hlt => hk.block k hlt (ho i g cs hi))) (fun k => offB_set hi)⟩
theorem env_grown (h : Env w0 V bs) {r : Option Nat} (hg : V.grownBy V' r) (hb : Below w0.heap.size w0 V') (hs : V.heap.size ≤ V'.heap.size) (hr : ∀ k,r = some k → OffB bs k) : Env w0 V' bs :=by
 refine ⟨hb,fun j g cs hj => ⟨(h.at_ j g cs hj).1,?_⟩,h.ne⟩
 have hB :=(h.at_ j g cs hj).2
 exact hB.same hs (hg.block g hB.lt (fun e => hr g e.symm j g cs hj rfl))
variable {ops : Array Oper} {rest : List Oper} {op : Oper} {a : Act} {Q : Exit → Act → World → Prop}
theorem wpList_app56 (h : EnvR w0 V bs vo out vg got) (x : S56) (hgd : op.guard = none) (s y : Operand) (ho : op.op = .call { callee :=.builtin .append,args :=#[s,y],argTypes :=#[38,38] }) (hs : a.eval s = vo) (hy : a.eval y = .slice (some ⟨V.heap.size,0,none⟩) 1 1) (hl : out.length ≤ 1000)
  (k : ∀ v1 V',EnvR w0 V' bs v1 (out ++ [x]) vg got → wpList Tryz.prog ops Q rest (a.put op.dst v1) V') : wpList Tryz.prog ops Q (op :: rest) a (V.alloc (.cells (s56c x) 56)) :=by
 refine Kd.R_append k56 (w0 :=w0) w0.heap.size hgd s y 38 56 (.agg #[(.int .i64 0),(.int .u16 0),(.int .u8 0),(.int .i64 0)]) 24 ho Tryz.underlying38 info56c rfl (by decide) (by omega) vo out x [.int .i64 x.f0,.int .u16 x.f1,.int .u8 x.f2,.int .i64 x.f3] (OffB bs) (fun _ => False) hs hy (k56_mkM _ _ _ x) (fun _ hk => hk.elim) (fun k hk j g cs hj => ?_) h.o h.env.b h.env.size (by omega) ?_
 ·have :=h.env.lt hj
  omega
 ·intro v1 w1 ho hb hg hat
  exact k v1 w1 ⟨env_grown h.env hg hb hg.size (fun k hk => h.o.1 k hk),ho,Kd.R_over' h.g (Kd.R_typed h.o) (by decide) hg⟩
theorem wpList_app8 (h : EnvR w0 V bs vo out vg got) (x : Int) (hgd : op.guard = none) (s y : Operand) (ho : op.op = .call { callee :=.builtin .append,args :=#[s,y],argTypes :=#[25,25] }) (hs : a.eval s = vg) (hy : a.eval y = .slice (some ⟨V.heap.size,0,none⟩) 1 1) (hl : got.length ≤ 1000)
  (k : ∀ v1 V',EnvR w0 V' bs vo out v1 (got ++ [x]) → wpList Tryz.prog ops Q rest (a.put op.dst v1) V') : wpList Tryz.prog ops Q (op :: rest) a (V.alloc (.cells #[.int .u8 x] 5)) :=by
 refine Kd.R_append (Kd.int .u8) (w0 :=w0) w0.heap.size hgd s y 25 5 (.int .u8 0) 1 ho Tryz.underlying25 info5c rfl (by decide) (by omega) vg got x [.int .u8 x] (OffB bs) (fun _ => False) hs hy rfl (fun _ hk => hk.elim) (fun k hk j g cs hj => ?_) h.g h.env.b h.env.size (by omega) ?_
 ·have :=h.env.lt hj
  omega
 ·intro v1 w1 ho hb hg hat
  exact k v1 w1 ⟨env_grown h.env hg hb hg.size (fun k hk => h.g.1 k hk),Kd.R_over' h.o (Kd.R_typed h.g) (by decide) hg,ho⟩
end
end Go.Proofs.YtnelghpendfdmaaGreatDoor.KRow
