/-
 PROVED: the loop of pendulumlaw11.StepReads over an instruction's tree: it reads just its bytes, from PC on.
-/
import Derived.Test.YtnelghpendfdmaaGreatDoorKBl
import Derived.Test.YtnelghpendfdmaaGreatDoorHRef9
namespace Go.Proofs.YtnelghpendfdmaaGreatDoor.KRow
open Go Go.RowKit Go.Proofs.YtnelghpendfdmaaGreatDoorW.PrintWords Go.Proofs.YtnelghpendfdmaaGreatDoor.HFun
set_option linter.unusedVariables false
set_option linter.unusedSimpArgs false
def rdsL (F : List Int → To) (code l : List Int) (pc : Int) : Nat → Nat → Nat → List Int → Option (Nat × Nat × Rg)
 | 0,_,_,_ => none
 | n + 1,i,fe,got =>
  if (F got).e = 0 then
   (if (F got).d = true then some (i,fe,(F got).s)
   else if (F got).k = 1 ∨ ((F got).k = 2 ∧ i < code.length) then
    (if i < code.length ∧ (F got).a = (pc + (i : Int)) % 65536 then rdsL F code l pc n (i + 1) (if (F got).k = 1 then fe + 1 else fe) (got ++ [rd code (i : Int)]) else none)
   else rdsL F code l pc n i fe (got ++ [ansOf l got.length]))
  else none
def cnt1 (ts : Ts) : Nat :=(ts.filter (fun q => q.1 == 1)).length
theorem cnt1_app (a b : Ts) : cnt1 (a ++ b) = cnt1 a + cnt1 b :=by unfold cnt1;rw [List.filter_append,List.length_append]
theorem cnt1_one (k t : Int) : cnt1 [(k,t)] = if k = 1 then 1 else 0 :=by
 by_cases h : k = 1
 ·simp [cnt1,h]
 ·simp [cnt1,h]
theorem ansOf_rng {l : List Int} (hl : ∀ x ∈ l,0 ≤ x ∧ x < 256) (n : Nat) : 0 ≤ ansOf l n ∧ ansOf l n < 256 :=by
 unfold ansOf
 by_cases h : n < l.length
 ·rw [if_pos h]
  have : rd l (n : Int) = l[n] :=by simp [rd,h]
  rw [this]
  exact hl _ (List.getElem_mem h)
 ·rw [if_neg h];decide
theorem rds_ask {F : List Int → To} {code l : List Int} {pc k a v t : Int} {s : Rg} {n i fe : Nat} {got : List Int} (h : F got = ⟨k,a,v,t,s,false,0⟩) : rdsL F code l pc (n + 1) i fe got =
  if k = 1 ∨ (k = 2 ∧ i < code.length) then
    (if i < code.length ∧ a = (pc + (i : Int)) % 65536 then rdsL F code l pc n (i + 1) (if k = 1 then fe + 1 else fe) (got ++ [rd code (i : Int)]) else none)
   else rdsL F code l pc n i fe (got ++ [ansOf l got.length]) :=by
 rw [rdsL,h]
 rfl
theorem rds_ret {F : List Int → To} {code l : List Int} {pc k a v t : Int} {s : Rg} {n i fe : Nat} {got : List Int} (h : F got = ⟨k,a,v,t,s,true,0⟩) : rdsL F code l pc (n + 1) i fe got = some (i,fe,s) :=by
 rw [rdsL,h]
 rfl
theorem rds_pl {F : List Int → To} {code l : List Int} {pc o : Int} {T : Tr Unit} (hF : ∀ g T',T.dn (o :: g) = some T' → F (o :: g) = T'.to) (hl : ∀ x ∈ l,0 ≤ x ∧ x < 256) {R : Rw → Ts → Prop} :
  ∀ (T' : Tr Unit) (n i fe : Nat) (g : List Int) (p : Int) (ts : Ts),T.dn (o :: g) = some T' → p = (pc + (i : Int)) % 65536 → n + ts.length = 11 → ts.length ≤ 10 → i ≤ code.length → fe = cnt1 ts →
   T'.pl p (code.drop i) ts (fun _ ρ' _ c' ts' => c' = [] ∧ R ρ' ts') → ∃ ρ' ts',R ρ' ts' ∧ rdsL F code l pc n i fe (o :: g) = some (code.length,cnt1 ts',ρ'.toRg) :=by
 intro T'
 induction T' with
 | ret v ρ =>
  intro n i fe g p ts hd hp hn ht hi hfe hpl
  obtain ⟨m,rfl⟩ : ∃ m,n = m + 1 :=⟨n - 1,by omega⟩
  have h0 : code.length ≤ i :=List.drop_eq_nil_iff.1 hpl.1
  obtain rfl : i = code.length :=by omega
  refine ⟨ρ,ts,hpl.2,?_⟩
  rw [rds_ret (hF g _ hd),hfe]
 | ask k a v t f ih =>
  intro n i fe g p ts hd hp hn ht hi hfe hpl
  obtain ⟨m,rfl⟩ : ∃ m,n = m + 1 :=⟨n - 1,by omega⟩
  unfold Tr.pl at hpl
  obtain ⟨hlt,hpl⟩ :=hpl
  rw [rds_ask (hF g _ hd)]
  cases hdr : code.drop i with
  | nil =>
   rw [hdr] at hpl
   have h0 : code.length ≤ i :=List.drop_eq_nil_iff.1 hdr
   have hk : ¬ (k = 1 ∨ (k = 2 ∧ i < code.length)) :=by have :=hpl.1;omega
   rw [if_neg hk]
   have hr :=ansOf_rng hl (o :: g).length
   have h1 :=ih (ansOf l (o :: g).length) m i fe (g ++ [ansOf l (o :: g).length]) p (ts ++ [(k,t)]) (Tr.dn_snoc (gl :=o :: g) hd _) hp (by simp;omega) (by simp;omega) hi
    (by rw [cnt1_app,cnt1_one,if_neg hpl.1,hfe];rfl) (by rw [hdr];exact hpl.2 _ hr.1 hr.2)
   exact h1
  | cons y c' =>
   rw [hdr] at hpl
   have hi2 : i < code.length :=by
    by_cases h : i < code.length
    ·exact h
    ·rw [List.drop_eq_nil_iff.2 (by omega)] at hdr;cases hdr
   have hy : rd code (i : Int) = y :=by
    have h1 : code[i]? = some y :=by
     have h2 : (code.drop i)[0]? = some y :=by rw [hdr];rfl
     rw [List.getElem?_drop] at h2
     simpa using h2
    simp [rd,h1]
   have hd2 : code.drop (i + 1) = c' :=by
    rw [← List.drop_drop,hdr];rfl
   simp only at hpl
   by_cases hk : k = 1 ∨ k = 2
   ·rw [if_pos hk] at hpl
    rw [if_pos (by omega),if_pos ⟨hi2,by rw [hpl.1,hp]⟩,hy]
    refine ih y m (i + 1) _ (g ++ [y]) (inc16 p) (ts ++ [(k,t)]) (Tr.dn_snoc (gl :=o :: g) hd _) ?_ (by simp;omega) (by simp;omega) (by omega) ?_ (by rw [hd2];exact hpl.2)
    ·rw [hp];unfold inc16;simp only [B.wu16];omega
    ·rw [cnt1_app,cnt1_one,hfe]
     split <;> rfl
   ·rw [if_neg hk] at hpl
    rw [if_neg (by omega)]
    have hr :=ansOf_rng hl (o :: g).length
    exact ih (ansOf l (o :: g).length) m i fe (g ++ [ansOf l (o :: g).length]) p (ts ++ [(k,t)]) (Tr.dn_snoc (gl :=o :: g) hd _) hp (by simp;omega) (by simp;omega) hi
     (by rw [cnt1_app,cnt1_one,if_neg (by omega),hfe];rfl) (by rw [hdr];exact hpl.2 _ hr.1 hr.2)
def rwP (ρ : Rg) (peek : Int) : Rw :={ toRg :=ρ,peek :=peek,x :=0,disp :=false,adr :=0 }
noncomputable def Rw.instr1 (ρ0 : Rw) (one : Bool) (op : Int) : Tr Unit :=
 let ρ :=({ ρ0 with late :=false } : Rw).fetched
 if op = 221 ∨ op = 253 then
  if one = true ∧ (ρ0.peek = 221 ∨ ρ0.peek = 237 ∨ ρ0.peek = 253) then .ret () { ρ with late :=true }
  else if op = 253 then ({ ρ with x :=2 } : Rw).second else ({ ρ with x :=1 } : Rw).second
 else if op = 203 then ρ.fetch.bind fun b ρ => (ρ.setBits (wrap64 b)).bind fun _ ρ => .ret () ρ
 else if op = 237 then ρ.fetch.bind fun b ρ => (ρ.setMore (wrap64 b)).bind fun _ ρ => .ret () ρ
 else (ρ.main (wrap64 op)).bind fun _ ρ => .ret () ρ
theorem instr_ask (ρ : Rw) (hh : ρ.halt = false) (one : Bool) : ρ.instr one = .ask 1 ρ.pc 0 4 (fun op => ρ.instr1 one op) :=by
 unfold Rw.instr Rw.fetch Rw.req
 rw [if_neg (by rw [hh];exact Bool.false_ne_true)]
 rfl
theorem instr1_one {ρ : Rw} {o : Int} (h : (o = 221 ∨ o = 253) → ¬ (ρ.peek = 221 ∨ ρ.peek = 237 ∨ ρ.peek = 253)) : ρ.instr1 true o = ρ.instr1 false o :=by
 unfold Rw.instr1
 by_cases h1 : o = 221 ∨ o = 253
 ·have n1 :=h h1
  simp only [if_pos h1,n1,and_false,if_false]
 ·simp only [if_neg h1]
theorem nx_dn {ρ : Rg} (hh : ρ.halt = false) {peek o : Int} (h : (o = 221 ∨ o = 253) → ¬ (peek = 221 ∨ peek = 237 ∨ peek = 253)) (g : List Int) (T' : Tr Unit) (hd : ((rwP ρ peek).instr false).dn (o :: g) = some T') : nx ρ peek (o :: g) = T'.to :=by
 unfold nx
 have hh' : (rwP ρ peek).halt = false :=hh
 rw [instr_ask _ hh'] at hd
 have hd' : ((rwP ρ peek).instr1 false o).dn g = some T' :=hd
 have e : ((rwP ρ peek).instr (((((o :: g).length : Nat) : Int)) == 1)).dn (o :: g) = some T' :=by
  rw [instr_ask _ hh']
  show ((rwP ρ peek).instr1 _ o).dn g = some T'
  cases (((((o :: g).length : Nat) : Int)) == 1) with
  | false => exact hd'
  | true => rw [instr1_one (ρ :=rwP ρ peek) h];exact hd'
 exact told_dn e
theorem rds_all {ρ : Rg} (hh : ρ.halt = false) (p0 : 0 ≤ ρ.pc) (p1 : ρ.pc < 65536) {peek o : Int} {rest l : List Int} (h : (o = 221 ∨ o = 253) → ¬ (peek = 221 ∨ peek = 237 ∨ peek = 253)) (hl : ∀ x ∈ l,0 ≤ x ∧ x < 256) {R : Rw → Ts → Prop}
  (hT : ((rwP ρ peek).instr false).pl ρ.pc (o :: rest) [] (fun _ ρ' _ c' ts' => c' = [] ∧ R ρ' ts')) :
  ∃ ρ' ts',R ρ' ts' ∧ rdsL (nx ρ peek) (o :: rest) l ρ.pc 11 0 0 [] = some ((o :: rest).length,cnt1 ts',ρ'.toRg) :=by
 have hh' : (rwP ρ peek).halt = false :=hh
 have hT0 :=hT
 rw [instr_ask _ hh'] at hT
 unfold Tr.pl at hT
 obtain ⟨_,hT⟩ :=hT
 simp only [true_or,if_true] at hT
 have h0 : nx ρ peek [] = ⟨1,ρ.pc,0,4,zeroRg,false,0⟩ :=by
  unfold nx
  have e : ((rwP ρ peek).instr (((([] : List Int).length : Nat) : Int) == 1)).dn [] = some ((rwP ρ peek).instr false) :=by cases hx : ((rwP ρ peek).instr false) <;> (simp [Tr.dn,hx])
  have :=told_dn e
  rw [instr_ask _ hh' false] at this
  exact this
 have h1 :=rds_pl (F :=nx ρ peek) (code :=o :: rest) (l :=l) (pc :=ρ.pc) (o :=o) (T :=(rwP ρ peek).instr false) (nx_dn hh h) hl (R :=R) ((rwP ρ peek).instr1 false o) 10 1 1 [] (inc16 ρ.pc) [(1,4)] (by rw [instr_ask _ hh'];simp only [Tr.dn]) (by unfold inc16;simp only [B.wu16];omega) rfl (by decide) (by simp) rfl hT.2
 obtain ⟨ρ',ts',hR,he⟩ :=h1
 refine ⟨ρ',ts',hR,?_⟩
 rw [rds_ask h0]
 have ep : ρ.pc = (ρ.pc + ((0 : Nat) : Int)) % 65536 :=by omega
 rw [if_pos (.inl rfl),if_pos ⟨by simp,ep⟩]
 have ey : rd (o :: rest) ((0 : Nat) : Int) = o :=rfl
 rw [ey]
 exact he
/-! the number of fetches -/
theorem cnt_main : ∀ n : Nat,n < 256 → ∀ x : Nat,x < 3 → ∀ s ∈ sMain (n : Int) (x : Int),cnt1 s = 0 :=by decide +kernel
theorem cnt_bits : ∀ n : Nat,n < 256 → ∀ s ∈ sBits (n : Int),cnt1 s = 0 :=by decide +kernel
theorem cnt_both : ∀ n : Nat,n < 256 → ∀ s ∈ sBoth (n : Int),cnt1 s = 0 :=by decide +kernel
theorem cnt_more : ∀ n : Nat,n < 256 → ∀ s ∈ sMore (n : Int),cnt1 s = 0 :=by decide +kernel
theorem cnt_b {P : Int → Prop} (h : ∀ n : Nat,n < 256 → P (n : Int)) {b : Int} (h0 : 0 ≤ b) (h1 : b < 256) : P (wrap64 b) :=by
 rw [w64b h0 h1]
 have :=h b.toNat (by omega)
 rwa [Int.toNat_of_nonneg h0] at this
theorem cnt_sk {o : Int} {rest : List Int} (hby : ∀ x ∈ o :: rest,0 ≤ x ∧ x < 256) {ts : Ts} (hts : ts ∈ skInstr (o :: rest)) (hc : codeOK (o :: rest)) : cnt1 ts = if two o then 2 else 1 :=by
 have hF2 : ∀ s : Ts,cnt1 ([qF,qF] ++ s) = 2 + cnt1 s :=fun s => by rw [cnt1_app];rfl
 have hF1 : ∀ s : Ts,cnt1 ([qF] ++ s) = 1 + cnt1 s :=fun s => by rw [cnt1_app];rfl
 have ho :=hby o (by simp)
 unfold skInstr at hts
 unfold codeOK at hc
 by_cases h1 : o = 221 ∨ o = 253
 ·have ht : two o :=by unfold two;omega
  rw [if_pos ht]
  simp only [if_pos h1] at hts hc
  match rest,hby,hts,hc with
  | o2 :: rest2,hby,hts,hc =>
   have ho2 :=hby o2 (by simp)
   simp only at hts hc
   by_cases h2 : o2 = 203
   ·simp only [if_pos h2] at hts hc
    obtain ⟨d,b,rfl⟩ :=len2 hc
    obtain ⟨s,hs,rfl⟩ :=List.mem_map.1 hts
    have hb :=hby b (by simp)
    rw [hF2,cnt_b (P :=fun b => ∀ s ∈ sBoth b,cnt1 s = 0) cnt_both hb.1 hb.2 s hs]
   ·simp only [if_neg h2] at hts
    obtain ⟨s,hs,rfl⟩ :=List.mem_map.1 hts
    rw [hF2]
    have hx : ∃ x : Nat,x < 3 ∧ (if o = 253 then 2 else 1 : Int) = (x : Int) :=by
     by_cases h3 : o = 253
     ·exact ⟨2,by decide,if_pos h3⟩
     ·exact ⟨1,by decide,if_neg h3⟩
    obtain ⟨x,hx,ex⟩ :=hx
    rw [ex] at hs
    rw [cnt_b (P :=fun b => ∀ s ∈ sMain b x,cnt1 s = 0) (fun n hn => cnt_main n hn x hx) ho2.1 ho2.2 s hs]
 ·simp only [if_neg h1] at hts hc
  by_cases h2 : o = 203
  ·have ht : two o :=by unfold two;omega
   rw [if_pos ht]
   simp only [if_pos h2] at hts hc
   obtain ⟨b,rfl⟩ :=len1 hc
   obtain ⟨s,hs,rfl⟩ :=List.mem_map.1 hts
   have hb :=hby b (by simp)
   rw [hF2,cnt_b (P :=fun b => ∀ s ∈ sBits b,cnt1 s = 0) cnt_bits hb.1 hb.2 s hs]
  ·simp only [if_neg h2] at hts hc
   by_cases h3 : o = 237
   ·have ht : two o :=by unfold two;omega
    rw [if_pos ht]
    simp only [if_pos h3] at hts hc
    match rest,hby,hts,hc with
    | b :: r2,hby,hts,hc =>
     obtain ⟨s,hs,rfl⟩ :=List.mem_map.1 hts
     have hb :=hby b (by simp)
     rw [hF2,cnt_b (P :=fun b => ∀ s ∈ sMore b,cnt1 s = 0) cnt_more hb.1 hb.2 s hs]
   ·have ht : ¬ two o :=by unfold two;omega
    rw [if_neg ht]
    simp only [if_neg h3] at hts hc
    obtain ⟨s,hs,rfl⟩ :=List.mem_map.1 hts
    rw [hF1,cnt_b (P :=fun b => ∀ s ∈ sMain b 0,cnt1 s = 0) (fun n hn => cnt_main n hn 0 (by decide)) ho.1 ho.2 s hs]
theorem oddf_pl {ρ : Rw} (hh : ρ.halt = false) {b : Int} (hb : px (wrap64 b) ≠ 1) (hz : pz (wrap64 b) = 7) : (ρ.instr false).pl ρ.pc [237,b] [] (fun _ ρ' _ c' ts' => c' = [] ∧ (cnt1 ts' = 2 ∧ ρ'.r = refR (refR ρ.r))) :=by
 unfold Rw.instr Rw.fetch Rw.req
 rw [if_neg (by rw [hh];exact Bool.false_ne_true)]
 simp only [Tr.bind,Tr.pl,true_or,if_true,true_and]
 refine ⟨by simp,?_⟩
 rw [if_neg (by decide),if_neg (by decide)]
 simp only [if_true,Tr.bind,Tr.pl,true_or,true_and,bind_unit]
 refine ⟨by simp,rfl,?_⟩
 unfold Rw.setMore
 rw [if_neg (by omega),if_neg hb]
 exact ⟨rfl,rfl,rfl⟩
theorem refR_n : ∀ n : Nat,n < 256 → refR (n : Int) = (n : Int) / 128 * 128 + ((n : Int) % 128 + 1) % 128 ∧ refR (refR (n : Int)) = (n : Int) / 128 * 128 + ((n : Int) % 128 + 2) % 128 :=by decide +kernel
theorem rAft_n {o r : Int} (h0 : 0 ≤ r) (h1 : r < 256) : rAft o r = r / 128 * 128 + (r % 128 + ((if two o then 2 else 1 : Nat) : Int)) % 128 :=by
 have h :=refR_n r.toNat (by omega)
 rw [Int.toNat_of_nonneg h0] at h
 unfold rAft
 by_cases ht : two o
 ·rw [if_pos ht,if_pos ht,h.2];rfl
 ·rw [if_neg ht,if_neg ht,h.1];rfl
theorem odd_n : ∀ n : Nat,n < 256 → py (n : Int) = 1 → pz (n : Int) = 7 → px (n : Int) = 1 → n = 79 :=by decide +kernel
/-- What StepReads asks of the loop, of an instruction's bytes. -/
theorem reads_code {ρ : Rg} (hh : ρ.halt = false) (p0 : 0 ≤ ρ.pc) (p1 : ρ.pc < 65536) (r0 : 0 ≤ ρ.r) (r1 : ρ.r < 256) {peek o : Int} {rest l : List Int} (hc : codeOK (o :: rest)) (hby : ∀ x ∈ o :: rest,0 ≤ x ∧ x < 256) (h : (o = 221 ∨ o = 253) → ¬ (peek = 221 ∨ peek = 237 ∨ peek = 253)) (hl : ∀ x ∈ l,0 ≤ x ∧ x < 256) :
  ∃ (fe : Nat) (s : Rg),rdsL (nx ρ peek) (o :: rest) l ρ.pc 11 0 0 [] = some ((o :: rest).length,fe,s) ∧ fe ≤ 2 ∧ ((o = 237 ∧ rest = [79]) ∨ s.r = ρ.r / 128 * 128 + (ρ.r % 128 + (fe : Int)) % 128) :=by
 by_cases hod : odd4f (o :: rest)
 ·match rest,hc,hby,hod with
  | b :: r2,hc,hby,hod =>
   obtain ⟨rfl,hy,hz⟩ :=hod
   have hb :=hby b (by simp)
   rw [w64b hb.1 hb.2] at hy hz
   have h2 : r2.length = nMore (wrap64 b) :=by
    simpa [codeOK] using hc
   have hnm : nMore (wrap64 b) = 0 :=by
    rw [w64b hb.1 hb.2]
    unfold nMore nMore1
    rw [if_neg (by omega)]
    split
    ·rw [if_neg (by omega)]
    ·rfl
   obtain rfl : r2 = [] :=List.eq_nil_of_length_eq_zero (by omega)
   by_cases hx : px b = 1
   ·have :=odd_n b.toNat (by omega)
    rw [Int.toNat_of_nonneg hb.1] at this
    have h79 : b = 79 :=by have :=this hy hz hx;omega
    subst h79
    have hT :=instr_pl (ρ :=rwP ρ peek) (one :=false) (code :=[237,79]) (Q :=fun _ ρ' _ c' ts' => c' = [] ∧ (ts' ∈ skInstr [237,79])) hh rfl (.inl (by simp)) hc hby (fun ρ' p' ts' g1 g2 => ⟨rfl,g1⟩)
    obtain ⟨ρ',ts',hR,he⟩ :=rds_all (R :=fun _ ts' => ts' ∈ skInstr [237,79]) hh p0 p1 h hl hT
    exact ⟨_,_,he,by rw [cnt_sk hby hR hc];decide,.inl ⟨rfl,rfl⟩⟩
   ·have hT :=oddf_pl (ρ :=rwP ρ peek) hh (b :=b) (by rw [w64b hb.1 hb.2];exact hx) (by rw [w64b hb.1 hb.2];exact hz)
    obtain ⟨ρ',ts',hR,he⟩ :=rds_all (R :=fun ρ' ts' => cnt1 ts' = 2 ∧ ρ'.r = refR (refR ρ.r)) hh p0 p1 h hl hT
    refine ⟨_,_,he,by rw [hR.1];decide,.inr ?_⟩
    have h3 :=refR_n ρ.r.toNat (by omega)
    rw [Int.toNat_of_nonneg r0] at h3
    rw [hR.1]
    exact hR.2.trans h3.2
 ·have hT :=instr_pl (ρ :=rwP ρ peek) (one :=false) (code :=o :: rest) (Q :=fun _ ρ' _ c' ts' => c' = [] ∧ (ts' ∈ skInstr (o :: rest) ∧ ρ'.r = rAft o ρ.r)) hh rfl (.inl (by simp)) hc hby (fun ρ' p' ts' g1 g2 => ⟨rfl,g1,g2 o rfl hod⟩)
  obtain ⟨ρ',ts',hR,he⟩ :=rds_all (R :=fun ρ' ts' => ts' ∈ skInstr (o :: rest) ∧ ρ'.r = rAft o ρ.r) hh p0 p1 h hl hT
  refine ⟨_,_,he,by rw [cnt_sk hby hR.1 hc];split <;> decide,.inr ?_⟩
  rw [cnt_sk hby hR.1 hc]
  exact hR.2.trans (rAft_n r0 r1)
/-- A prefix in front of another. -/
theorem reads_lone {ρ : Rg} (hh : ρ.halt = false) (p0 : 0 ≤ ρ.pc) (p1 : ρ.pc < 65536) (r0 : 0 ≤ ρ.r) (r1 : ρ.r < 256) {peek o : Int} {l : List Int} (ho : o = 221 ∨ o = 253) (hp : peek = 221 ∨ peek = 237 ∨ peek = 253) :
  ∃ (s : Rg),rdsL (nx ρ peek) [o] l ρ.pc 11 0 0 [] = some (1,1,s) ∧ s.r = ρ.r / 128 * 128 + (ρ.r % 128 + ((1 : Nat) : Int)) % 128 :=by
 have hh' : (rwP ρ peek).halt = false :=hh
 have h0 : nx ρ peek [] = ⟨1,ρ.pc,0,4,zeroRg,false,0⟩ :=by
  unfold nx
  have e : ((rwP ρ peek).instr (((([] : List Int).length : Nat) : Int) == 1)).dn [] = some ((rwP ρ peek).instr false) :=by cases hx : ((rwP ρ peek).instr false) <;> (simp [Tr.dn,hx])
  have :=told_dn e
  rw [instr_ask _ hh' false] at this
  exact this
 have h1 : nx ρ peek [o] = ⟨0,0,0,0,({ (({ rwP ρ peek with late :=false } : Rw).fetched) with late :=true } : Rw).toRg,true,0⟩ :=by
  unfold nx
  have e : ((rwP ρ peek).instr ((((([o] : List Int).length : Nat) : Int)) == 1)).dn [o] = some (.ret () { (({ rwP ρ peek with late :=false } : Rw).fetched) with late :=true }) :=by
   show ((rwP ρ peek).instr true).dn [o] = _
   rw [instr_ask _ hh']
   simp only [Tr.dn]
   unfold Rw.instr1
   simp only [if_pos ho]
   rw [if_pos ⟨trivial,hp⟩]
  exact told_dn e
 have ep : ρ.pc = (ρ.pc + ((0 : Nat) : Int)) % 65536 :=by omega
 refine ⟨({ (({ rwP ρ peek with late :=false } : Rw).fetched) with late :=true } : Rw).toRg,?_,?_⟩
 ·rw [rds_ask h0,if_pos (.inl rfl),if_pos ⟨by simp,ep⟩]
  have ey : rd [o] ((0 : Nat) : Int) = o :=rfl
  rw [ey]
  exact rds_ret h1
 ·have h :=refR_n ρ.r.toNat (by omega)
  rw [Int.toNat_of_nonneg r0] at h
  exact h.1
end Go.Proofs.YtnelghpendfdmaaGreatDoor.KRow
/-
 PROVED: pendulumref09.Of as a function of a row of bytes, and what StepReads' loop answers of the bytes it takes.
-/
namespace Go.Proofs.YtnelghpendfdmaaGreatDoor.KRow
open Go Go.RowKit Go.Proofs.YtnelghpendfdmaaGreatDoorW.PrintWords Go.Proofs.YtnelghpendfdmaaGreatDoor.HFun
set_option linter.unusedVariables false
structure Ins where
 s : Int
 x : Int
 o : Int
 d : Int
 i : Int
 n : Int
def Ins.zero : Ins :=⟨0,0,0,0,0,0⟩
noncomputable def sg (v : Int) : Int :=(pendulumref09_signed.f v).getD 0
noncomputable def refMain (l : List Int) (j : Nat) (s x : Int) : Ins × Int :=
 let p :=(pendulumref09_Needs.f 20 s x (rd l (j : Int))).getD (false,0)
 let D : Nat :=if p.1 = true then 1 else 0
 let L : Nat :=j + 1 + D + p.2.toNat
 if l.length < L then (Ins.zero,5) else
  (⟨s,x,rd l (j : Int),if p.1 = true then sg (rd l ((j + 1 : Nat) : Int)) else 0,
   if p.2 = 1 then (if s = 0 ∧ pendulumref09_Relative.f (rd l (j : Int)) = some true then sg (rd l ((j + 1 + D : Nat) : Int)) else rd l ((j + 1 + D : Nat) : Int))
   else if p.2 = 2 then rd l ((j + 1 + D : Nat) : Int) + 256 * rd l ((j + 2 + D : Nat) : Int) else 0,(L : Int)⟩,0)
noncomputable def refOf (l : List Int) : Ins × Int :=
 if l.length = 0 then (Ins.zero,5)
 else if rd l 0 = 221 ∨ rd l 0 = 253 then
  (if l.length < 2 then (Ins.zero,5)
  else if rd l 1 = 237 ∨ rd l 1 = 221 ∨ rd l 1 = 253 then (⟨0,0,rd l 0,0,0,1⟩,0)
  else if rd l 1 = 203 then (if l.length < 4 then (Ins.zero,5) else (⟨3,if rd l 0 = 253 then 2 else 1,rd l 3,sg (rd l 2),0,4⟩,0))
  else refMain l 1 0 (if rd l 0 = 253 then 2 else 1))
 else if rd l 0 = 203 then (if l.length < 2 then (Ins.zero,5) else refMain l 1 1 0)
 else if rd l 0 = 237 then (if l.length < 2 then (Ins.zero,5) else refMain l 1 2 0)
 else refMain l 0 0 0
def combos : List (Bool × Nat) :=[(false,0),(false,1),(false,2),(true,0),(true,1)]
def tabB (n x : Nat) : Bool :=combos.any fun p => (pendulumref09_Needs.f 20 0 (x : Int) (n : Int) == some (p.1,(p.2 : Int))) && (pendulumref09_length.f 20 0 (x : Int) (n : Int) == some (((if x = 0 then 0 else 1) + 1 + (if p.1 = true then 1 else 0) + p.2 : Nat) : Int)) &&
 (nMain (n : Int) (x : Int) == (if p.1 = true then 1 else 0) + p.2) && (!p.1 || (x != 0 && (p.2 != 1 || pendulumref09_Relative.f (n : Int) == some false)))
theorem tab_n : ∀ n : Nat,n < 256 → ∀ x : Nat,x < 3 → (tabB n x || n == 203 || n == 237 || n == 221 || n == 253) = true :=by decide +kernel
theorem tab_bits : ∀ n : Nat,n < 256 → pendulumref09_Needs.f 20 1 0 (n : Int) = some (false,0) ∧ pendulumref09_length.f 20 1 0 (n : Int) = some 2 :=by decide +kernel
theorem tab_more : ∀ n : Nat,n < 256 → ∃ k ∈ ([0,2] : List Nat),pendulumref09_Needs.f 20 2 0 (n : Int) = some (false,(k : Int)) ∧ pendulumref09_length.f 20 2 0 (n : Int) = some ((2 + k : Nat) : Int) ∧ nMore (n : Int) = k :=by decide +kernel
theorem byte_all {P : Int → Prop} (h : ∀ n : Nat,n < 256 → P (n : Int)) {b : Int} (h0 : 0 ≤ b) (h1 : b < 256) : P b :=by
 have :=h b.toNat (by omega)
 rwa [Int.toNat_of_nonneg h0] at this
theorem tab_main {o : Int} (h0 : 0 ≤ o) (h1 : o < 256) (hne : o ≠ 203 ∧ o ≠ 237 ∧ o ≠ 221 ∧ o ≠ 253) (x : Nat) (hx : x < 3) : ∃ p ∈ combos,pendulumref09_Needs.f 20 0 (x : Int) o = some (p.1,(p.2 : Int)) ∧
  pendulumref09_length.f 20 0 (x : Int) o = some (((if x = 0 then 0 else 1) + 1 + (if p.1 = true then 1 else 0) + p.2 : Nat) : Int) ∧ nMain o (x : Int) = (if p.1 = true then 1 else 0) + p.2 ∧ (p.1 = true → x ≠ 0 ∧ (p.2 = 1 → pendulumref09_Relative.f o = some false)) :=by
 obtain ⟨n,rfl⟩ : ∃ n : Nat,o = (n : Int) :=⟨o.toNat,(Int.toNat_of_nonneg h0).symm⟩
 have h :=tab_n n (by omega) x hx
 have e1 : (n == 203) = false :=by simp;omega
 have e2 : (n == 237) = false :=by simp;omega
 have e3 : (n == 221) = false :=by simp;omega
 have e4 : (n == 253) = false :=by simp;omega
 rw [e1,e2,e3,e4] at h
 simp only [Bool.or_false,tabB,List.any_eq_true,Bool.and_eq_true,beq_iff_eq] at h
 obtain ⟨p,hp,⟨⟨h1,h2⟩,h3⟩,h4⟩ :=h
 refine ⟨p,hp,h1,h2,h3,fun hp1 => ?_⟩
 rw [hp1] at h4
 simp only [Bool.not_true,Bool.false_or,Bool.and_eq_true,bne_iff_ne,Bool.or_eq_true,beq_iff_eq] at h4
 refine ⟨h4.1,fun h5 => ?_⟩
 rcases h4.2 with h6 | h6
 ·exact absurd h5 h6
 ·exact h6
theorem sg_some (v : Int) : pendulumref09_signed.f v = some (sg v) :=by
 unfold sg pendulumref09_signed.f
 split <;> rfl
theorem rel_some (o : Int) : pendulumref09_Relative.f o = some true ∨ pendulumref09_Relative.f o = some false :=by
 unfold pendulumref09_Relative.f
 split
 ·split
  ·cases (Int.tmod o 8 == 0) <;> simp
  ·exact .inr rfl
 ·exact .inr rfl
theorem rd_rng {l : List Int} (hl : ∀ x ∈ l,0 ≤ x ∧ x < 256) {j : Nat} (hj : j < l.length) : 0 ≤ rd l (j : Int) ∧ rd l (j : Int) < 256 :=by
 have : rd l (j : Int) = l[j] :=by simp [rd,hj]
 rw [this]
 exact hl _ (List.getElem_mem hj)
theorem take_rd1 {l : List Int} {n : Nat} (h : 1 ≤ n) (hn : n ≤ l.length) : l.take n = rd l 0 :: (l.drop 1).take (n - 1) :=by
 match l,h,hn with
 | a :: r,h,hn =>
  obtain ⟨m,rfl⟩ : ∃ m,n = m + 1 :=⟨n - 1,by omega⟩
  simp [rd]
 | [],h,hn => simp at hn;omega
theorem take_rd2 {l : List Int} {n : Nat} (h : 2 ≤ n) (hn : n ≤ l.length) : l.take n = rd l 0 :: rd l 1 :: (l.drop 2).take (n - 2) :=by
 match l,h,hn with
 | a :: b :: r,h,hn =>
  obtain ⟨m,rfl⟩ : ∃ m,n = m + 2 :=⟨n - 2,by omega⟩
  simp [rd]
 | [a],h,hn => simp at hn;omega
 | [],h,hn => simp at hn;omega
def peekOf (b : List Int) : Int :=if 1 < b.length then rd b 1 else 0
/-- What StepReads' loop answers, of the bytes that Of takes. -/
theorem reads_ref {ρ : Rg} (hh : ρ.halt = false) (p0 : 0 ≤ ρ.pc) (p1 : ρ.pc < 65536) (r0 : 0 ≤ ρ.r) (r1 : ρ.r < 256) {b l : List Int} (hb : ∀ x ∈ b,0 ≤ x ∧ x < 256) (hl : ∀ x ∈ l,0 ≤ x ∧ x < 256) {v : Ins} (hv : refOf b = (v,0)) :
  ∃ (n fe : Nat) (s : Rg),v.n = (n : Int) ∧ 1 ≤ n ∧ n ≤ b.length ∧ rdsL (nx ρ (peekOf b)) (b.take n) l ρ.pc 11 0 0 [] = some (n,fe,s) ∧ fe ≤ 2 ∧ ((v.s = 2 ∧ v.o = 79) ∨ s.r = ρ.r / 128 * 128 + (ρ.r % 128 + (fe : Int)) % 128) :=by
 have key : ∀ n : Nat,1 ≤ n → n ≤ b.length → codeOK (b.take n) → ((rd b 0 = 221 ∨ rd b 0 = 253) → ¬ (peekOf b = 221 ∨ peekOf b = 237 ∨ peekOf b = 253)) →
   ∃ (fe : Nat) (s : Rg),rdsL (nx ρ (peekOf b)) (b.take n) l ρ.pc 11 0 0 [] = some (n,fe,s) ∧ fe ≤ 2 ∧ (b.take n = [237,79] ∨ s.r = ρ.r / 128 * 128 + (ρ.r % 128 + (fe : Int)) % 128) :=by
  intro n h1 hn hc hp
  have hby : ∀ x ∈ b.take n,0 ≤ x ∧ x < 256 :=fun x hx => hb x (List.mem_of_mem_take hx)
  have hlen : (b.take n).length = n :=by rw [List.length_take];omega
  rw [take_rd1 h1 hn] at hc hby hlen ⊢
  obtain ⟨fe,s,e1,e2,e3⟩ :=reads_code hh p0 p1 r0 r1 hc hby hp hl
  refine ⟨fe,s,by rw [e1,hlen],e2,?_⟩
  rcases e3 with ⟨e4,e5⟩ | e3
  ·exact .inl (by rw [e4,e5])
  ·exact .inr e3
 have rd0 : 0 < b.length → 0 ≤ rd b 0 ∧ rd b 0 < 256 :=fun h => rd_rng hb (j :=0) h
 have rd1 : 1 < b.length → 0 ≤ rd b 1 ∧ rd b 1 < 256 :=fun h => rd_rng hb (j :=1) h
 unfold refOf at hv
 by_cases h0 : b.length = 0
 ·rw [if_pos h0] at hv;cases hv
 rw [if_neg h0] at hv
 by_cases hpre : rd b 0 = 221 ∨ rd b 0 = 253
 ·rw [if_pos hpre] at hv
  by_cases h2 : b.length < 2
  ·rw [if_pos h2] at hv;cases hv
  rw [if_neg h2] at hv
  have hpk : peekOf b = rd b 1 :=if_pos (by omega)
  by_cases hlone : rd b 1 = 237 ∨ rd b 1 = 221 ∨ rd b 1 = 253
  ·rw [if_pos hlone] at hv
   cases hv
   obtain ⟨s,e1,e2⟩ :=reads_lone hh p0 p1 r0 r1 (peek :=peekOf b) (o :=rd b 0) (l :=l) hpre (by rw [hpk];omega)
   refine ⟨1,1,s,rfl,by omega,by omega,?_,by omega,.inr e2⟩
   rw [take_rd1 (by omega) (by omega)]
   simpa using e1
  rw [if_neg hlone] at hv
  have hnp : ¬ (peekOf b = 221 ∨ peekOf b = 237 ∨ peekOf b = 253) :=by rw [hpk];omega
  by_cases h203 : rd b 1 = 203
  ·rw [if_pos h203] at hv
   by_cases h4 : b.length < 4
   ·rw [if_pos h4] at hv;cases hv
   rw [if_neg h4] at hv
   cases hv
   obtain ⟨fe,s,e1,e2,e3⟩ :=key 4 (by omega) (by omega) (by
    rw [take_rd2 (by omega) (by omega)]
    unfold codeOK
    simp only [if_pos hpre,if_pos h203]
    rw [List.length_take,List.length_drop]
    omega) (fun _ => hnp)
   refine ⟨4,fe,s,rfl,by omega,by omega,e1,e2,?_⟩
   rcases e3 with e3 | e3
   ·rw [take_rd2 (by omega) (by omega)] at e3
    simp only [List.cons.injEq] at e3
    omega
   ·exact .inr e3
  rw [if_neg h203] at hv
  have hb1 :=rd1 (by omega)
  obtain ⟨x,hx,hx0,ex⟩ : ∃ x : Nat,x < 3 ∧ x ≠ 0 ∧ (if rd b 0 = 253 then 2 else 1 : Int) = (x : Int) :=by
   by_cases h3 : rd b 0 = 253
   ·exact ⟨2,by decide,by decide,if_pos h3⟩
   ·exact ⟨1,by decide,by decide,if_neg h3⟩
  obtain ⟨p,hp,t1,t2,t3,t4⟩ :=tab_main hb1.1 hb1.2 (by omega) x hx
  rw [ex] at hv
  unfold refMain at hv
  have e11 : rd b ((1 : Nat) : Int) = rd b 1 :=rfl
  rw [e11,t1] at hv
  simp only [Option.getD_some,Int.toNat_natCast] at hv
  by_cases hL : b.length < 1 + 1 + (if p.1 = true then 1 else 0) + p.2
  ·rw [if_pos hL] at hv;cases hv
  rw [if_neg hL] at hv
  cases hv
  obtain ⟨fe,s,e1,e2,e3⟩ :=key (1 + 1 + (if p.1 = true then 1 else 0) + p.2) (by omega) (by omega) (by
   rw [take_rd2 (by omega) (by omega)]
   unfold codeOK
   simp only [if_pos hpre,if_neg h203]
   refine ⟨by omega,by omega,by omega,?_⟩
   rw [List.length_take,List.length_drop,w64b hb1.1 hb1.2,ex,t3]
   omega) (fun _ => hnp)
  refine ⟨_,fe,s,rfl,by omega,by omega,e1,e2,?_⟩
  rcases e3 with e3 | e3
  ·rw [take_rd2 (by omega) (by omega)] at e3
   simp only [List.cons.injEq] at e3
   omega
  ·exact .inr e3
 rw [if_neg hpre] at hv
 have hnopre : (rd b 0 = 221 ∨ rd b 0 = 253) → ¬ (peekOf b = 221 ∨ peekOf b = 237 ∨ peekOf b = 253) :=fun h => absurd h hpre
 by_cases h203 : rd b 0 = 203
 ·rw [if_pos h203] at hv
  by_cases h2 : b.length < 2
  ·rw [if_pos h2] at hv;cases hv
  rw [if_neg h2] at hv
  have hb1 :=rd1 (by omega)
  obtain ⟨t1,t2⟩ :=byte_all (P :=fun n => pendulumref09_Needs.f 20 1 0 n = some (false,0) ∧ pendulumref09_length.f 20 1 0 n = some 2) tab_bits hb1.1 hb1.2
  unfold refMain at hv
  have e11 : rd b ((1 : Nat) : Int) = rd b 1 :=rfl
  rw [e11,t1] at hv
  simp only [Option.getD_some] at hv
  by_cases hL : b.length < 1 + 1 + 0 + (0 : Int).toNat
  ·simp at hL;omega
  rw [if_neg (by simpa using hL)] at hv
  cases hv
  obtain ⟨fe,s,e1,e2,e3⟩ :=key 2 (by omega) (by omega) (by
   rw [take_rd2 (by omega) (by omega)]
   simp only [codeOK,if_neg hpre,if_pos h203]
   rfl) hnopre
  refine ⟨2,fe,s,rfl,by omega,by omega,e1,e2,?_⟩
  rcases e3 with e3 | e3
  ·rw [take_rd2 (by omega) (by omega)] at e3
   simp only [List.cons.injEq] at e3
   omega
  ·exact .inr e3
 rw [if_neg h203] at hv
 by_cases h237 : rd b 0 = 237
 ·rw [if_pos h237] at hv
  by_cases h2 : b.length < 2
  ·rw [if_pos h2] at hv;cases hv
  rw [if_neg h2] at hv
  have hb1 :=rd1 (by omega)
  obtain ⟨k,hk,t1,t2,t3⟩ :=byte_all (P :=fun n => ∃ k ∈ ([0,2] : List Nat),pendulumref09_Needs.f 20 2 0 n = some (false,((k : Nat) : Int)) ∧ pendulumref09_length.f 20 2 0 n = some ((2 + k : Nat) : Int) ∧ nMore n = k) tab_more hb1.1 hb1.2
  unfold refMain at hv
  have e11 : rd b ((1 : Nat) : Int) = rd b 1 :=rfl
  rw [e11,t1] at hv
  simp only [Option.getD_some,Int.toNat_natCast,Bool.false_eq_true,if_false] at hv
  by_cases hL : b.length < 1 + 1 + 0 + k
  ·rw [if_pos hL] at hv;cases hv
  rw [if_neg hL] at hv
  cases hv
  obtain ⟨fe,s,e1,e2,e3⟩ :=key (1 + 1 + 0 + k) (by omega) (by omega) (by
   rw [take_rd2 (by omega) (by omega)]
   simp only [codeOK,if_neg hpre,if_neg h203,if_pos h237]
   rw [List.length_take,List.length_drop,w64b hb1.1 hb1.2,t3]
   omega) hnopre
  refine ⟨_,fe,s,rfl,by omega,by omega,e1,e2,?_⟩
  rcases e3 with e3 | e3
  ·rw [take_rd2 (by omega) (by omega)] at e3
   simp only [List.cons.injEq] at e3
   exact .inl ⟨rfl,e3.2.1⟩
  ·exact .inr e3
 rw [if_neg h237] at hv
 have hb0 :=rd0 (by omega)
 obtain ⟨p,hp,t1,t2,t3,t4⟩ :=tab_main hb0.1 hb0.2 (by omega) 0 (by decide)
 unfold refMain at hv
 have e11 : rd b ((0 : Nat) : Int) = rd b 0 :=rfl
 have t1' : pendulumref09_Needs.f 20 0 0 (rd b 0) = some (p.1,(p.2 : Int)) :=t1
 rw [e11,t1'] at hv
 simp only [Option.getD_some,Int.toNat_natCast] at hv
 by_cases hL : b.length < 0 + 1 + (if p.1 = true then 1 else 0) + p.2
 ·rw [if_pos hL] at hv;cases hv
 rw [if_neg hL] at hv
 cases hv
 obtain ⟨fe,s,e1,e2,e3⟩ :=key (0 + 1 + (if p.1 = true then 1 else 0) + p.2) (by omega) (by omega) (by
  rw [take_rd1 (by omega) (by omega)]
  simp only [codeOK,if_neg hpre,if_neg h203,if_neg h237]
  rw [List.length_take,List.length_drop,w64b hb0.1 hb0.2]
  have t3' : nMain (rd b 0) 0 = (if p.1 = true then 1 else 0) + p.2 :=t3
  rw [t3']
  omega) hnopre
 refine ⟨_,fe,s,rfl,by omega,by omega,e1,e2,?_⟩
 rcases e3 with e3 | e3
 ·rw [take_rd1 (by omega) (by omega)] at e3
  simp only [List.cons.injEq] at e3
  omega
 ·exact .inr e3
end Go.Proofs.YtnelghpendfdmaaGreatDoor.KRow
