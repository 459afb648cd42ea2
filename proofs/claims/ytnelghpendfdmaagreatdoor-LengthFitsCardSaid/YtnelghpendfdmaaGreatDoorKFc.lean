/-
 PROVED: the requests of a flat machine's step: the loop of (*length.Flat).row over an instruction's tree.
-/
import Derived.Test.YtnelghpendfdmaaGreatDoorKFs
namespace Go.Proofs.YtnelghpendfdmaaGreatDoor.KRow
open Go Go.RowKit Go.Proofs.YtnelghpendfdmaaGreatDoorW.PrintWords
open Go.Proofs.YtnelghpendfdmaaGreatDoor.HFun
set_option linter.unusedVariables false
def kt (q : S56) : Int × Int :=(q.f0,q.f3)
def inV (a : Int) : Int :=Go.bits .xor .u8 (a % 256) (a / 256 % 256)
theorem inV_rng (a : Int) : 0 ≤ inV a ∧ inV a < 256 :=by
 unfold inV Go.bits
 dsimp only
 rw [B.wu8]
 exact ⟨by omega,by omega⟩
instance (a : Int) : Decidable (InU a) :=by unfold InU;infer_instance
noncomputable def stepF (c : To) (m : Nat → Int) : Option ((Nat → Int) × Int) :=
 if c.k = 3 then (if InU c.a then some (wrM m c.a.toNat c.v,0) else none)
 else if c.k = 1 ∨ c.k = 2 then (if InU c.a ∧ 0 ≤ m c.a.toNat ∧ m c.a.toNat < 256 then some (m,m c.a.toNat) else none)
 else if c.k = 4 then some (m,inV c.a) else if c.k = 5 ∨ c.k = 6 then some (m,0) else none
noncomputable def frw (F : Int → List Int → To) (p : Nat) : Nat → (Nat → Int) → List S56 → List Int → Option (List S56 × Rg × (Nat → Int))
 | 0,_,_,_ => none
 | n + 1,m,out,got => if (F (m p) got).e = 0 then (if (F (m p) got).d = true then some (out,(F (m p) got).s,m) else match stepF (F (m p) got) m with
  | none => none
  | some mx => frw F p n mx.1 (out ++ [⟨(F (m p) got).k,(F (m p) got).a,(F (m p) got).v,(F (m p) got).t⟩]) (got ++ [mx.2])) else none
theorem frw_ask {F : Int → List Int → To} {p n : Nat} {m m' : Nat → Int} {out : List S56} {got : List Int} {k a v t x : Int} {s : Rg} (h : F (m p) got = ⟨k,a,v,t,s,false,0⟩) (hs : stepF ⟨k,a,v,t,s,false,0⟩ m = some (m',x)) : frw F p (n + 1) m out got = frw F p n m' (out ++ [⟨k,a,v,t⟩]) (got ++ [x]) :=by
 rw [frw,h]
 simp only [if_true,Bool.false_eq_true,if_false,hs]
theorem frw_ret {F : Int → List Int → To} {p n : Nat} {m : Nat → Int} {out : List S56} {got : List Int} {k a v t : Int} {s : Rg} (h : F (m p) got = ⟨k,a,v,t,s,true,0⟩) : frw F p (n + 1) m out got = some (out,s,m) :=by
 rw [frw,h]
 simp only [if_true]
theorem frw_inv {F : Int → List Int → To} {p n : Nat} {m mo : Nat → Int} {out o : List S56} {got : List Int} {s : Rg} (H : frw F p (n + 1) m out got = some (o,s,mo)) :
  ∃ (ck ca cv ct : Int) (cs : Rg) (cd : Bool),F (m p) got = ⟨ck,ca,cv,ct,cs,cd,0⟩ ∧ ((cd = true ∧ out = o ∧ cs = s ∧ m = mo) ∨ (cd = false ∧ ∃ m' x,((ck = 3 ∧ InU ca ∧ m' = wrM m ca.toNat cv ∧ x = 0) ∨ ((ck = 1 ∨ ck = 2) ∧ InU ca ∧ (0 ≤ m ca.toNat ∧ m ca.toNat < 256) ∧ m' = m ∧ x = m ca.toNat) ∨ (ck = 4 ∧ m' = m ∧ x = inV ca) ∨ ((ck = 5 ∨ ck = 6) ∧ m' = m ∧ x = 0)) ∧ frw F p n m' (out ++ [⟨ck,ca,cv,ct⟩]) (got ++ [x]) = some (o,s,mo))) :=by
 obtain ⟨c,hc⟩ : ∃ c,F (m p) got = c :=⟨_,rfl⟩
 obtain ⟨ck,ca,cv,ct,cs,cd,ce⟩ :=c
 rw [frw,hc] at H
 by_cases he : ce = 0
 case neg => simp only [if_neg he] at H;cases H
 subst he
 refine ⟨ck,ca,cv,ct,cs,cd,hc,?_⟩
 cases cd with
 | true =>
  simp only [if_true,Option.some.injEq,Prod.mk.injEq] at H
  exact .inl ⟨rfl,H⟩
 | false =>
  simp only [if_true,Bool.false_eq_true,if_false] at H
  refine .inr ⟨rfl,?_⟩
  cases hs : stepF ⟨ck,ca,cv,ct,cs,false,0⟩ m with
  | none => rw [hs] at H;cases H
  | some mx =>
   rw [hs] at H
   refine ⟨mx.1,mx.2,?_,H⟩
   unfold stepF at hs
   dsimp only at hs
   by_cases h3 : ck = 3
   ·rw [if_pos h3] at hs
    by_cases hu : InU ca
    ·rw [if_pos hu] at hs;cases hs;exact .inl ⟨h3,hu,rfl,rfl⟩
    ·rw [if_neg hu] at hs;cases hs
   rw [if_neg h3] at hs
   by_cases h1 : ck = 1 ∨ ck = 2
   ·rw [if_pos h1] at hs
    by_cases hu : InU ca ∧ 0 ≤ m ca.toNat ∧ m ca.toNat < 256
    ·rw [if_pos hu] at hs;cases hs;exact .inr (.inl ⟨h1,hu.1,hu.2,rfl,rfl⟩)
    ·rw [if_neg hu] at hs;cases hs
   rw [if_neg h1] at hs
   by_cases h4 : ck = 4
   ·rw [if_pos h4] at hs;cases hs;exact .inr (.inr (.inl ⟨h4,rfl,rfl⟩))
   rw [if_neg h4] at hs
   by_cases h5 : ck = 5 ∨ ck = 6
   ·rw [if_pos h5] at hs;cases hs;exact .inr (.inr (.inr ⟨h5,rfl,rfl⟩))
   ·rw [if_neg h5] at hs;cases hs
/-! no read behind a write -/
def nrw : Ts → Bool
 | [] => true
 | q :: r => if q.1 = 3 then r.all (fun z => z.1 != 1 && z.1 != 2) else nrw r
theorem nrw_no {b : Ts} {k t : Int} : ∀ {a : Ts},nrw (a ++ (k,t) :: b) = true → (∃ q ∈ a,q.1 = 3) → k ≠ 1 ∧ k ≠ 2
 | [],_,h3 => by obtain ⟨q,hq,_⟩ :=h3;cases hq
 | q :: r,h,h3 => by
  rw [List.cons_append,nrw] at h
  by_cases hq : q.1 = 3
  ·rw [if_pos hq,List.all_append,Bool.and_eq_true,List.all_cons,Bool.and_eq_true,Bool.and_eq_true,bne_iff_ne,bne_iff_ne] at h
   exact h.2.1
  ·rw [if_neg hq] at h
   refine nrw_no h ?_
   obtain ⟨z,hz,e⟩ :=h3
   rcases List.mem_cons.1 hz with rfl | hz
   ·exact absurd e hq
   ·exact ⟨z,hz,e⟩
theorem pq_ext {α : Type} {R : Ts → Prop} {t : Tr α} {p : Int} {c : List Int} {ts : Ts} (h : t.pq p c ts R) : ∃ b,R (ts ++ b) :=by
 induction t generalizing p c ts with
 | ret v ρ => exact ⟨[],by rw [List.append_nil];exact h.2⟩
 | ask k a v t f ih =>
  unfold Tr.pq at h
  have key : ∀ {x p c},(f x).pq p c (ts ++ [(k,t)]) R → ∃ b,R (ts ++ b) :=fun {x p c} h => by
   obtain ⟨b,hb⟩ :=ih x h
   exact ⟨(k,t) :: b,by rwa [List.append_assoc] at hb⟩
  cases c with
  | nil => exact key (h.2.2.2 0)
  | cons y c' =>
   have h2 :=h.2
   simp only at h2
   split at h2
   ·exact key h2.2
   ·exact key (h2.2 0)
theorem stepF_o {k a v t : Int} {s : Rg} {m : Nat → Int} (h : 4 ≤ k ∧ k ≤ 6) : ∃ x,(0 ≤ x ∧ x < 256) ∧ stepF ⟨k,a,v,t,s,false,0⟩ m = some (m,x) :=by
 unfold stepF
 dsimp only
 rw [if_neg (by omega),if_neg (by omega)]
 by_cases h4 : k = 4
 ·rw [if_pos h4];exact ⟨_,inV_rng _,rfl⟩
 ·rw [if_neg h4,if_pos (by omega)];exact ⟨0,by decide,rfl⟩
theorem fr_pq {F : Int → List Int → To} {pc o : Int} {pp : Nat} {m0 : Nat → Int} {code : List Int} {T : Tr Unit} {R : Ts → Prop} (hF : ∀ g T' q,T.dn (o :: g) = some T' → (g = [] → q = m0 pp) → F q (o :: g) = T'.to)
  (hc : ∀ i : Nat,i < code.length → m0 ((pc + (i : Int)) % 65536).toNat = rd code (i : Int)) (hm0 : ∀ k,0 ≤ m0 k ∧ m0 k < 256) (hR : ∀ ts,R ts → nrw ts = true) :
  ∀ (T' : Tr Unit) (n i : Nat) (g : List Int) (p : Int) (ts : Ts) (m : Nat → Int) (out : List S56),T.dn (o :: g) = some T' → p = (pc + (i : Int)) % 65536 → n + ts.length = 11 → ts.length ≤ 10 → i ≤ code.length → out.map kt = ts → (m = m0 ∨ (i = code.length ∧ g ≠ [] ∧ ∃ q ∈ ts,q.1 = 3)) →
   T'.pq p (code.drop i) ts R → ∃ out' s m',R (out'.map kt) ∧ frw F pp n m out (o :: g) = some (out',s,m') :=by
 intro T'
 induction T' with
 | ret v ρ =>
  intro n i g p ts m out hd hp hn ht hi ho hm hpl
  obtain ⟨k,rfl⟩ : ∃ k,n = k + 1 :=⟨n - 1,by omega⟩
  have h0 :=hF g _ (m pp) hd (fun hg => by rcases hm with rfl | ⟨_,h,_⟩;rfl;exact absurd hg h)
  exact ⟨out,ρ.toRg,m,by rw [ho];exact hpl.2,frw_ret h0⟩
 | ask k a v t f ih =>
  intro n i g p ts m out hd hp hn ht hi ho hm hpl
  obtain ⟨n,rfl⟩ : ∃ k,n = k + 1 :=⟨n - 1,by omega⟩
  have h0 :=hF g _ (m pp) hd (fun hg => by rcases hm with rfl | ⟨_,h,_⟩;rfl;exact absurd hg h)
  unfold Tr.pq at hpl
  obtain ⟨hlt,hpl⟩ :=hpl
  have ho2 : (out ++ [(⟨k,a,v,t⟩ : S56)]).map kt = ts ++ [(k,t)] :=by rw [List.map_append,ho];rfl
  have go : ∀ {x m' i' p'},stepF ⟨k,a,v,t,zeroRg,false,0⟩ m = some (m',x) → p' = (pc + (i' : Nat)) % 65536 → i' ≤ code.length → (m' = m0 ∨ (i' = code.length ∧ ∃ q ∈ ts ++ [(k,t)],q.1 = 3)) → (f x).pq p' (code.drop i') (ts ++ [(k,t)]) R → ∃ out' s m',R (out'.map kt) ∧ frw F pp (n + 1) m out (o :: g) = some (out',s,m') :=fun {x m' i' p'} hs hp' hi' hm' hpl' => by
   rw [frw_ask h0 hs]
   exact ih x n i' (g ++ [x]) p' _ m' _ (Tr.dn_snoc (gl :=o :: g) hd _) hp' (by simp;omega) (by simp;omega) hi' ho2 (by
    rcases hm' with h | ⟨h1,h2⟩
    ·exact .inl h
    ·exact .inr ⟨h1,by simp,h2⟩) hpl'
  have hm3 : m = m0 ∨ (i = code.length ∧ ∃ q ∈ ts ++ [(k,t)],q.1 = 3) :=by
   rcases hm with h | ⟨h1,_,q,hq,h3⟩
   ·exact .inl h
   ·exact .inr ⟨h1,q,List.mem_append_left _ hq,h3⟩
  cases hdr : code.drop i with
  | nil =>
   rw [hdr] at hpl
   obtain ⟨hk,hu,hpl⟩ :=hpl
   have hil : i = code.length :=by have :=List.drop_eq_nil_iff.1 hdr;omega
   by_cases h3 : k = 3
   ·exact go (x :=0) (m' :=wrM m a.toNat v) (by unfold stepF;dsimp only;rw [if_pos h3,if_pos (hu (by omega))]) hp hi (.inr ⟨hil,(k,t),by simp,h3⟩) (by rw [hdr];exact hpl 0)
   by_cases h2 : k = 2
   ·have hmm : m = m0 :=by
     rcases hm with h | ⟨_,_,h⟩
     ·exact h
     ·obtain ⟨b,hb⟩ :=pq_ext (hpl 0)
      rw [List.append_assoc] at hb
      exact absurd h2 (nrw_no (hR _ hb) h).2
    exact go (x :=m a.toNat) (m' :=m) (by unfold stepF;dsimp only;rw [if_neg h3,if_pos (.inr h2),if_pos ⟨hu (by omega),by rw [hmm];exact hm0 _⟩]) hp hi (.inl hmm) (by rw [hdr];exact hpl _)
   obtain ⟨x,_,hs⟩ :=stepF_o (k :=k) (a :=a) (v :=v) (t :=t) (s :=zeroRg) (m :=m) (by omega)
   exact go hs hp hi hm3 (by rw [hdr];exact hpl x)
  | cons y c' =>
   rw [hdr] at hpl
   have hi2 : i < code.length :=by
    by_cases h : i < code.length
    ·exact h
    ·rw [List.drop_eq_nil_iff.2 (by omega)] at hdr;cases hdr
   have hmm : m = m0 :=by
    rcases hm with h | ⟨h1,_⟩
    ·exact h
    ·omega
   have hy : rd code (i : Int) = y :=by
    have h2 : (code.drop i)[0]? = some y :=by rw [hdr];rfl
    rw [List.getElem?_drop] at h2
    have h1 : code[i]? = some y :=by simpa using h2
    simp [rd,h1]
   have hd2 : code.drop (i + 1) = c' :=by
    rw [← List.drop_drop,hdr];rfl
   simp only at hpl
   by_cases hk : k = 1 ∨ k = 2
   ·rw [if_pos hk] at hpl
    have hma : m a.toNat = y :=by rw [hmm,hpl.1,hp,hc i hi2,hy]
    have hya :=hm0 a.toNat
    rw [← hmm,hma] at hya
    refine go (x :=y) (m' :=m) (i' :=i + 1) ?_ ?_ hi2 (.inl hmm) (by rw [hd2];exact hpl.2)
    ·unfold stepF
     dsimp only
     rw [if_neg (by omega),if_pos hk,if_pos ⟨by rw [hpl.1,hp];exact ⟨by omega,by omega⟩,by rw [hma];exact hya⟩,hma]
    ·rw [hp];unfold zbk;simp only [B.wu16];omega
   ·rw [if_neg hk] at hpl
    obtain ⟨x,_,hs⟩ :=stepF_o (k :=k) (a :=a) (v :=v) (t :=t) (s :=zeroRg) (m :=m) hpl.1
    exact go hs hp hi (.inl hmm) (by rw [hdr];exact hpl.2 x)
theorem fr_all {ρ : Rg} (hh : ρ.halt = false) (p0 : 0 ≤ ρ.pc) (p1 : ρ.pc < 65536) {m0 : Nat → Int} (hm0 : ∀ k,0 ≤ m0 k ∧ m0 k < 256) {pp : Nat} {o : Int} {rest : List Int} (hc : ∀ i : Nat,i < (o :: rest).length → m0 ((ρ.pc + (i : Int)) % 65536).toNat = rd (o :: rest) (i : Int)) (h : (o = 221 ∨ o = 253) → ¬ (m0 pp = 221 ∨ m0 pp = 237 ∨ m0 pp = 253)) {R : Ts → Prop} (hR : ∀ ts,R ts → nrw ts = true)
  (hT : ((rwP ρ (m0 pp)).instr false).pq ρ.pc (o :: rest) [] R) : ∃ out s m',R (out.map kt) ∧ frw (nx ρ) pp 11 m0 [] [] = some (out,s,m') :=by
 have hh' : (rwP ρ (m0 pp)).halt = false :=hh
 rw [instr_ask _ hh'] at hT
 unfold Tr.pq at hT
 obtain ⟨_,hT⟩ :=hT
 simp only [true_or,if_true] at hT
 have h0 : nx ρ (m0 pp) [] = ⟨1,ρ.pc,0,4,zeroRg,false,0⟩ :=by
  unfold nx
  have e : ((rwP ρ (m0 pp)).instr (((([] : List Int).length : Nat) : Int) == 1)).dn [] = some ((rwP ρ (m0 pp)).instr false) :=by cases hx : ((rwP ρ (m0 pp)).instr false) <;> (simp [Tr.dn,hx])
  have :=told_dn e
  rw [instr_ask _ hh' false] at this
  exact this
 have hp : m0 ρ.pc.toNat = o :=by
  have :=hc 0 (by simp)
  have e : (ρ.pc + ((0 : Nat) : Int)) % 65536 = ρ.pc :=by omega
  rw [e] at this
  exact this
 have hs : stepF ⟨1,ρ.pc,0,4,zeroRg,false,0⟩ m0 = some (m0,o) :=by
  unfold stepF
  dsimp only
  rw [if_neg (by decide),if_pos (.inl rfl),if_pos ⟨⟨p0,p1⟩,hm0 _⟩,hp]
 rw [frw_ask h0 hs]
 refine fr_pq (F :=nx ρ) (code :=o :: rest) (pc :=ρ.pc) (o :=o) (T :=(rwP ρ (m0 pp)).instr false) (fun g T' q hd hg => ?_) hc hm0 hR ((rwP ρ (m0 pp)).instr1 false o) 10 1 [] (zbk ρ.pc) [(1,4)] m0 _ (by rw [instr_ask _ hh'];simp only [Tr.dn]) (by unfold zbk;simp only [B.wu16];omega) rfl (by decide) (by simp) rfl (.inl rfl) hT.2
 have h1 :=nx_dn hh h g T' hd
 cases g with
 | nil => rw [hg rfl];exact h1
 | cons x g => rw [← h1];exact nx_pk (by simp)
theorem fr_lone {ρ : Rg} (hh : ρ.halt = false) (p0 : 0 ≤ ρ.pc) (p1 : ρ.pc < 65536) {m0 : Nat → Int} (hm0 : ∀ k,0 ≤ m0 k ∧ m0 k < 256) {pp : Nat} {o : Int} (hc : m0 ρ.pc.toNat = o) (ho : o = 221 ∨ o = 253) (hp : m0 pp = 221 ∨ m0 pp = 237 ∨ m0 pp = 253) : ∃ s,frw (nx ρ) pp 11 m0 [] [] = some ([⟨1,ρ.pc,0,4⟩],s,m0) :=by
 have hh' : (rwP ρ (m0 pp)).halt = false :=hh
 have h0 : nx ρ (m0 pp) [] = ⟨1,ρ.pc,0,4,zeroRg,false,0⟩ :=by
  unfold nx
  have e : ((rwP ρ (m0 pp)).instr (((([] : List Int).length : Nat) : Int) == 1)).dn [] = some ((rwP ρ (m0 pp)).instr false) :=by cases hx : ((rwP ρ (m0 pp)).instr false) <;> (simp [Tr.dn,hx])
  have :=told_dn e
  rw [instr_ask _ hh' false] at this
  exact this
 have hs : stepF ⟨1,ρ.pc,0,4,zeroRg,false,0⟩ m0 = some (m0,o) :=by
  unfold stepF
  dsimp only
  rw [if_neg (by decide),if_pos (.inl rfl),if_pos ⟨⟨p0,p1⟩,hm0 _⟩,hc]
 rw [frw_ask h0 hs]
 have h1 : nx ρ (m0 pp) ([] ++ [o]) = ⟨0,0,0,0,({ (({ rwP ρ (m0 pp) with late :=false } : Rw).fetched) with late :=true } : Rw).toRg,true,0⟩ :=by
  unfold nx
  have e : ((rwP ρ (m0 pp)).instr ((((([] : List Int) ++ [o]).length : Nat) : Int) == 1)).dn ([] ++ [o]) = some (.ret () { (({ rwP ρ (m0 pp) with late :=false } : Rw).fetched) with late :=true }) :=by
   show ((rwP ρ (m0 pp)).instr true).dn [o] = _
   rw [instr_ask _ hh']
   simp only [Tr.dn]
   unfold Rw.instr1
   simp only [if_pos ho]
   rw [if_pos ⟨trivial,hp⟩]
  exact told_dn e
 rw [frw_ret h1]
 exact ⟨_,rfl⟩
end Go.Proofs.YtnelghpendfdmaaGreatDoor.KRow
