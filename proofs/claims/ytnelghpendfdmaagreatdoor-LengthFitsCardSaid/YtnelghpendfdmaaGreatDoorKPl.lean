/-
 The row's methods low, high, main as functions of what is in the row: trees of requests (definitions alone).
-/
import Derived.Test.YtnelghpendfdmaaGreatDoorKMod
namespace Go.Proofs.YtnelghpendfdmaaGreatDoor.KRow
open Go Go.RowKit Go.Proofs.YtnelghpendfdmaaGreatDoorW.PrintWords
open Go.Proofs.YtnelghpendfdmaaGreatDoor.HFun
set_option linter.unusedVariables false
def decB (b : Int) : Int :=(b - 1) % 256
def Rw.low0 (ρ : Rw) (y : Int) : Tr Unit :=
 if y = 0 then .ret () ρ
 else if y = 1 then .ret () (ρ.regs (ρ.toRg.swap (rmod 0 3)))
 else if y = 2 then (ρ.idle 1).bind fun _ ρ => (({ ρ with b :=decB ρ.b } : Rw).next).bind fun e ρ => if ρ.b = 0 then .ret () ρ else (ρ.jump e).bind fun _ ρ => .ret () ρ
 else ρ.next.bind fun e ρ => if y = 3 then (ρ.jump e).bind fun _ ρ => .ret () ρ else if ρ.cond (wrap64 (y - 4)) = true then (ρ.jump e).bind fun _ ρ => .ret () ρ else .ret () ρ
def Rw.low1 (ρ : Rw) (p q : Int) : Tr Unit :=
 if q = 0 then ρ.word.bind fun v ρ => (ρ.putPair p false v).bind fun _ ρ => .ret () ρ
 else (ρ.idle 7).bind fun _ ρ =>
  (({ ρ with wz :=zbk (ρ.pair 2 false) } : Rw).putPair 2 false (vWAdd1 (ρ.pair 2 false) (({ ρ with wz :=zbk (ρ.pair 2 false) } : Rw).pair p false) ρ.f)).bind fun _ ρ1 => .ret () { ρ1 with f :=(vWAdd2 (ρ.pair 2 false) (({ ρ with wz :=zbk (ρ.pair 2 false) } : Rw).pair p false) ρ.f) }
def Rw.low3 (ρ : Rw) (p q : Int) : Tr Unit :=
 (ρ.idle 2).bind fun _ ρ => (ρ.putPair p false (IntKind.u16.wrap (zbk (ρ.pair p false) - IntKind.u16.wrap (wrap64 (2 * q))))).bind fun _ ρ => .ret () ρ
def Rw.low45 (ρ : Rw) (y z : Int) : Tr Unit :=
 (ρ.get y).bind fun v ρ =>
  if y = 6 then (ρ.idle 1).bind fun _ ρ => if z = 4 then (({ ρ with f :=(vAInc2 v ρ.f) } : Rw).write ρ.adr (vAInc1 v ρ.f)).bind fun _ ρ => .ret () ρ else (({ ρ with f :=(vADec2 v ρ.f) } : Rw).write ρ.adr (vADec1 v ρ.f)).bind fun _ ρ => .ret () ρ
  else if z = 4 then (({ ρ with f :=(vAInc2 v ρ.f) } : Rw).put8 y (vAInc1 v ρ.f)).bind fun _ ρ => .ret () ρ else (({ ρ with f :=(vADec2 v ρ.f) } : Rw).put8 y (vADec1 v ρ.f)).bind fun _ ρ => .ret () ρ
def Rw.low6 (ρ : Rw) (y : Int) : Tr Unit :=
 if y = 6 then
  if ρ.x = 0 then ρ.next.bind fun n ρ => (ρ.write (ρ.pair 2 false) n).bind fun _ ρ => .ret () ρ
  else ρ.next.bind fun d ρ => ρ.next.bind fun n ρ => (ρ.idle 2).bind fun _ ρ => (({ ρ with wz :=vWPlus (ρ.pair 2 false) d } : Rw).write (vWPlus (ρ.pair 2 false) d) n).bind fun _ ρ => .ret () ρ
 else ρ.next.bind fun n ρ => (ρ.put8 y n).bind fun _ ρ => .ret () ρ
def Rw.low7 (ρ : Rw) (y : Int) : Tr Unit :=
 if y = 0 ∨ y = 1 ∨ y = 2 ∨ y = 3 then .ret () { ρ with a :=(vSTurn1 y ρ.a ρ.f),f :=(vSTurn2 y ρ.a ρ.f) }
 else if y = 4 then .ret () { ρ with a :=(vSDaa1 ρ.a ρ.f),f :=(vSDaa2 ρ.a ρ.f) }
 else if y = 5 then .ret () { ρ with a :=(vSCpl1 ρ.a ρ.f),f :=(vSCpl2 ρ.a ρ.f) }
 else if y = 6 then .ret () { ρ with f :=vSScf ρ.a ρ.f }
 else .ret () { ρ with f :=vSCcf ρ.a ρ.f }
def Rw.low (ρ : Rw) (op y z p q : Int) : Tr Unit :=
 if z = 0 then ρ.low0 y else if z = 1 then ρ.low1 p q else if z = 2 then ρ.moves op p else if z = 3 then ρ.low3 p q
 else if z = 4 ∨ z = 5 then ρ.low45 y z else if z = 6 then ρ.low6 y else ρ.low7 y
def Rw.high1 (ρ : Rw) (p q : Int) : Tr Unit :=
 if q = 0 then ρ.pop.bind fun v ρ => (ρ.putPair p true v).bind fun _ ρ => .ret () ρ
 else if p = 0 then ρ.rets.bind fun _ ρ => .ret () ρ
 else if p = 1 then .ret () (ρ.regs (ρ.toRg.swap (rmod 1 3)))
 else if p = 2 then .ret () { ρ with pc :=ρ.pair 2 false }
 else (ρ.idle 2).bind fun _ ρ => .ret () { ρ with sp :=ρ.pair 2 false }
def Rw.high5 (ρ : Rw) (op p q : Int) : Tr Unit :=
 if q = 0 then (ρ.idle 1).bind fun _ ρ => (ρ.push (ρ.pair p true)).bind fun _ ρ => .ret () ρ
 else if op = 205 then ρ.word.bind fun v ρ => (({ ρ with wz :=v } : Rw).call v).bind fun _ ρ => .ret () ρ
 else .ret () ρ
def Rw.high (ρ : Rw) (op y z p q : Int) : Tr Unit :=
 if z = 0 then (ρ.idle 1).bind fun _ ρ => if ρ.cond y = true then ρ.rets.bind fun _ ρ => .ret () ρ else .ret () ρ
 else if z = 1 then ρ.high1 p q
 else if z = 2 then ρ.word.bind fun v ρ => if ({ ρ with wz :=v } : Rw).cond y = true then .ret () { ρ with wz :=v,pc :=v } else .ret () { ρ with wz :=v }
 else if z = 3 then (ρ.odd op).bind fun _ ρ => .ret () ρ
 else if z = 4 then ρ.word.bind fun v ρ => if ({ ρ with wz :=v } : Rw).cond y = true then (({ ρ with wz :=v } : Rw).call v).bind fun _ ρ => .ret () ρ else .ret () { ρ with wz :=v }
 else if z = 5 then ρ.high5 op p q
 else if z = 6 then ρ.next.bind fun v ρ => .ret () { ρ with a :=(vDo1 y ρ.a v ρ.f),f :=(vDo2 y ρ.a v ρ.f) }
 else (ρ.call (IntKind.u16.wrap (wrap64 (8 * y)))).bind fun _ ρ => .ret () { ρ with wz :=ρ.pc }
def vNeeds (s x op : Int) : Bool × Int :=(ycw.f 24 s x op).getD (false,0)
def vNeeds1 (s x op : Int) : Bool :=(vNeeds s x op).1
def vNeeds2 (s x op : Int) : Int :=(vNeeds s x op).2
def Rw.main (ρ : Rw) (op : Int) : Tr Unit :=
 (fun ρ : Rw =>
  if px op = 0 then (ρ.low op (py op) (pz op) (pp op) (pq op)).bind fun _ ρ => .ret () ρ
  else if px op = 1 then
   if op = 118 then .ret () { ρ with halt :=true }
   else if py op = 6 then ρ.address.bind fun a ρ => (ρ.write a (ρ.toRg.get (rmod 0 3) (rmod (pz op) 8))).bind fun _ ρ => .ret () ρ
   else (ρ.get (pz op)).bind fun v ρ => (ρ.put8 (py op) v).bind fun _ ρ => .ret () ρ
  else if px op = 2 then (ρ.get (pz op)).bind fun v ρ => .ret () { ρ with a :=(vDo1 (py op) ρ.a v ρ.f),f :=(vDo2 (py op) ρ.a v ρ.f) }
  else (ρ.high op (py op) (pz op) (pp op) (pq op)).bind fun _ ρ => .ret () ρ) { ρ with disp :=(vNeeds1 0 ρ.x op) }
def sub2 (x : Int) : Int :=IntKind.u16.wrap (x - 2)
def Rw.again (ρ : Rw) (b : Bool) : Tr Unit :=if b = true then (ρ.idle 5).bind fun _ ρ => .ret () { ρ with pc :=sub2 ρ.pc,wz :=zbk (sub2 ρ.pc) } else .ret () ρ
def add16 (x s : Int) : Int :=IntKind.u16.wrap (x + s)
def Rw.hl0 (ρ : Rw) : Int :=zbg ρ.h ρ.l
def Rw.de0 (ρ : Rw) : Int :=zbg ρ.d ρ.e
def Rw.bc0 (ρ : Rw) : Int :=zbg ρ.b ρ.c
def Rw.blockTail0 (ρ : Rw) (hl de bc s v : Int) : Rw :={ ρ with h :=add16 hl s / 256 % 256,l :=add16 hl s % 256,d :=add16 de s / 256 % 256,e :=add16 de s % 256,b :=dec16 bc / 256 % 256,c :=dec16 bc % 256,f :=vWMove ρ.a v (dec16 bc) ρ.f }
def Rw.block0 (ρ : Rw) (s : Int) (rep : Bool) : Tr Unit :=
 (ρ.read ρ.hl0).bind fun v ρ1 => (ρ1.write ρ.de0 v).bind fun _ ρ1 => (ρ1.idle 2).bind fun _ ρ1 =>
  ((ρ1.blockTail0 ρ.hl0 ρ.de0 ρ.bc0 s v).again (rep && (dec16 ρ.bc0 != 0))).bind fun _ ρ => .ret () ρ
def Rw.blockTail1 (ρ : Rw) (hl bc s v : Int) : Rw :={ ρ with h :=add16 hl s / 256 % 256,l :=add16 hl s % 256,b :=dec16 bc / 256 % 256,c :=dec16 bc % 256,wz :=add16 ρ.wz s,f :=vWFind ρ.a v (dec16 bc) ρ.f }
def Rw.block1 (ρ : Rw) (s : Int) (rep : Bool) : Tr Unit :=
 (ρ.read ρ.hl0).bind fun v ρ1 => (ρ1.idle 5).bind fun _ ρ1 =>
  ((ρ1.blockTail1 ρ.hl0 ρ.bc0 s v).again (rep && ((dec16 ρ.bc0 != 0) && (Go.bits .and .u8 (vWFind ρ1.a v (dec16 ρ.bc0) ρ1.f) 64 == 0)))).bind fun _ ρ => .ret () ρ
def Rw.block2 (ρ : Rw) (s s8 : Int) (rep : Bool) : Tr Unit :=
 (ρ.idle 1).bind fun _ ρ1 => (ρ1.inp ρ.bc0).bind fun v ρ1 => (({ ρ1 with wz :=add16 ρ.bc0 s,b :=decB ρ1.b } : Rw).write ρ.hl0 v).bind fun _ ρ1 =>
  (({ ρ1 with h :=add16 ρ.hl0 s / 256 % 256,l :=add16 ρ.hl0 s % 256,f :=vWPort v ρ1.b ((ρ1.c + s8) % 256) } : Rw).again (rep && (ρ1.b != 0))).bind fun _ ρ => .ret () ρ
def Rw.block3 (ρ : Rw) (s : Int) (rep : Bool) : Tr Unit :=
 (ρ.idle 1).bind fun _ ρ1 => (ρ1.read ρ.hl0).bind fun v ρ1 =>
  (({ ρ1 with h :=add16 ρ.hl0 s / 256 % 256,l :=add16 ρ.hl0 s % 256,b :=decB ρ1.b } : Rw).out (zbg (decB ρ1.b) ρ1.c) v).bind fun _ ρ2 =>
  (({ ρ2 with wz :=add16 (zbg (decB ρ1.b) ρ1.c) s,f :=vWPort v ρ2.b ρ2.l } : Rw).again (rep && (ρ2.b != 0))).bind fun _ ρ => .ret () ρ
def Rw.block (ρ : Rw) (y z : Int) : Tr Unit :=
 if Go.bits .and .i64 y 1 = 1 then (if z = 0 then ρ.block0 65535 (decide (6 ≤ y)) else if z = 1 then ρ.block1 65535 (decide (6 ≤ y)) else if z = 2 then ρ.block2 65535 255 (decide (6 ≤ y)) else ρ.block3 65535 (decide (6 ≤ y)))
 else (if z = 0 then ρ.block0 1 (decide (6 ≤ y)) else if z = 1 then ρ.block1 1 (decide (6 ≤ y)) else if z = 2 then ρ.block2 1 1 (decide (6 ≤ y)) else ρ.block3 1 (decide (6 ≤ y)))
def imOf (y : Int) : Int :=if y % 4 = 2 then 1 else if y % 4 = 3 then 2 else 0
noncomputable def Rw.more1 (ρ : Rw) (y z p q : Int) : Tr Unit :=
 if z = 0 then (ρ.inp ρ.bc0).bind fun v ρ1 => .ret () { ρ1.regs (ρ1.toRg.put1 (rmod 0 3) (rmod y 8) v) with f :=ownFlags v (ρ1.toRg.put1 (rmod 0 3) (rmod y 8) v).f (aParity v),wz :=zbk ρ.bc0 }
 else if z = 1 then (ρ.out ρ.bc0 (ρ.toRg.get (rmod 0 3) (rmod y 8))).bind fun _ ρ1 => .ret () { ρ1 with wz :=zbk ρ.bc0 }
 else if z = 2 then (ρ.idle 7).bind fun _ ρ =>
  if q = 0 then .ret () { ρ with wz :=zbk ρ.hl0,h :=(vWSbc1 ρ.hl0 (({ ρ with wz :=zbk ρ.hl0 } : Rw).pair p false) ρ.f) / 256 % 256,l :=(vWSbc1 ρ.hl0 (({ ρ with wz :=zbk ρ.hl0 } : Rw).pair p false) ρ.f) % 256,f :=(vWSbc2 ρ.hl0 (({ ρ with wz :=zbk ρ.hl0 } : Rw).pair p false) ρ.f) }
  else .ret () { ρ with wz :=zbk ρ.hl0,h :=(vWAdc1 ρ.hl0 (({ ρ with wz :=zbk ρ.hl0 } : Rw).pair p false) ρ.f) / 256 % 256,l :=(vWAdc1 ρ.hl0 (({ ρ with wz :=zbk ρ.hl0 } : Rw).pair p false) ρ.f) % 256,f :=(vWAdc2 ρ.hl0 (({ ρ with wz :=zbk ρ.hl0 } : Rw).pair p false) ρ.f) }
 else if z = 3 then (if q = 0 then (ρ.store (ρ.pair p false)).bind fun _ ρ => .ret () ρ else ρ.load.bind fun v ρ => (ρ.putPair p false v).bind fun _ ρ => .ret () ρ)
 else if z = 4 then .ret () { ρ with a :=(vANeg1 ρ.a),f :=(vANeg2 ρ.a) }
 else if z = 5 then (({ ρ with ff1 :=ρ.ff2 } : Rw).rets).bind fun _ ρ => .ret () ρ
 else if z = 6 then .ret () { ρ with im :=imOf y }
 else (ρ.accumulator y ρ.hl0).bind fun _ ρ => .ret () ρ
noncomputable def Rw.setMore (ρ : Rw) (op : Int) : Tr Unit :=
 if px op = 2 ∧ 4 ≤ py op ∧ pz op ≤ 3 then (ρ.block (py op) (pz op)).bind fun _ ρ => .ret () ρ
 else if px op = 1 then ρ.more1 (py op) (pz op) (pp op) (pq op) else .ret () ρ
def Rw.second (ρ : Rw) : Tr Unit :=
 ρ.fetch.bind fun op ρ => if op = 203 then ρ.setBoth.bind fun _ ρ => .ret () ρ else if op = 221 ∨ op = 237 ∨ op = 253 then .ret () ρ else (ρ.main (wrap64 op)).bind fun _ ρ => .ret () ρ
noncomputable def Rw.instr (ρ : Rw) (one : Bool) : Tr Unit :=
 if ρ.halt = true then ρ.halted.bind fun _ ρ => .ret () ρ
 else (({ ρ with late :=false } : Rw).fetch).bind fun op ρ =>
  if op = 221 ∨ op = 253 then
   if one = true ∧ (ρ.peek = 221 ∨ ρ.peek = 237 ∨ ρ.peek = 253) then .ret () { ρ with late :=true }
   else if op = 253 then ({ ρ with x :=2 } : Rw).second else ({ ρ with x :=1 } : Rw).second
  else if op = 203 then ρ.fetch.bind fun b ρ => (ρ.setBits (wrap64 b)).bind fun _ ρ => .ret () ρ
  else if op = 237 then ρ.fetch.bind fun b ρ => (ρ.setMore (wrap64 b)).bind fun _ ρ => .ret () ρ
  else (ρ.main (wrap64 op)).bind fun _ ρ => .ret () ρ
set_option linter.unusedSimpArgs false
abbrev Ts :=List (Int × Int)
theorem bind_ite {α β : Type} {P : Prop} [Decidable P] {A B : Tr α} {F : α → Rw → Tr β} : (if P then A else B).bind F = if P then A.bind F else B.bind F :=by
 by_cases h : P
 ·simp only [if_pos h]
 ·simp only [if_neg h]
theorem bind_unit (t : Tr Unit) : t.bind (fun _ ρ => .ret () ρ) = t :=Tr.bind_ret t
theorem len1 {c : List Int} (h : c.length = 1) : ∃ u,c = [u] :=by
 match c,h with | [u],_ => exact ⟨u,rfl⟩
theorem len2 {c : List Int} (h : c.length = 2) : ∃ u v,c = [u,v] :=by
 match c,h with | [u,v],_ => exact ⟨u,v,rfl⟩
abbrev qF : Int × Int :=(1,4)
abbrev qN : Int × Int :=(2,3)
abbrev qW : Int × Int :=(3,3)
abbrev qI : Int × Int :=(4,4)
abbrev qO : Int × Int :=(5,4)
abbrev q1 : Int × Int :=(6,1)
abbrev q2 : Int × Int :=(6,2)
abbrev q4 : Int × Int :=(6,4)
abbrev q5 : Int × Int :=(6,5)
abbrev q7 : Int × Int :=(6,7)
def nAddr (x : Int) : Nat :=if x = 0 then 0 else 1
def nGet (c x : Int) : Nat :=if c = 6 then nAddr x else 0
def nLow0 (y : Int) : Nat :=if y = 0 then 0 else if y = 1 then 0 else 1
def nLow1 (q : Int) : Nat :=if q = 0 then 2 else 0
def nMoves (op : Int) : Nat :=if op = 2 ∨ op = 18 then 0 else if op = 10 ∨ op = 26 then 0 else 2
def nLow45 (y x : Int) : Nat :=if y = 6 then nAddr x else 0
def nLow6 (y x : Int) : Nat :=if y = 6 then (if x = 0 then 1 else 2) else 1
def nLow (op y z q x : Int) : Nat :=if z = 0 then nLow0 y else if z = 1 then nLow1 q else if z = 2 then nMoves op else if z = 3 then 0 else if z = 4 ∨ z = 5 then nLow45 y x else if z = 6 then nLow6 y x else 0
def nOdd (op : Int) : Nat :=if op = 195 then 2 else if op = 211 then 1 else if op = 219 then 1 else 0
def nHigh5 (op q : Int) : Nat :=if q = 0 then 0 else if op = 205 then 2 else 0
def nHigh (op z q : Int) : Nat :=if z = 0 then 0 else if z = 1 then 0 else if z = 2 then 2 else if z = 3 then nOdd op else if z = 4 then 2 else if z = 5 then nHigh5 op q else if z = 6 then 1 else 0
def nMain (op x : Int) : Nat :=if px op = 0 then nLow op (py op) (pz op) (pq op) x else if px op = 1 then (if op = 118 then 0 else if py op = 6 then nAddr x else nGet (pz op) x) else if px op = 2 then nGet (pz op) x else nHigh op (pz op) (pq op)
def nMore1 (z : Int) : Nat :=if z = 3 then 2 else 0
def nMore (op : Int) : Nat :=if px op = 2 ∧ 4 ≤ py op ∧ pz op ≤ 3 then 0 else if px op = 1 then nMore1 (pz op) else 0
theorem kk1 : ((1 : Int) = 1 ∨ (1 : Int) = 2) = True :=by simp
theorem kk2 : ((2 : Int) = 1 ∨ (2 : Int) = 2) = True :=by simp
theorem kk3 : ((3 : Int) = 1 ∨ (3 : Int) = 2) = False :=by simp
theorem kk4 : ((4 : Int) = 1 ∨ (4 : Int) = 2) = False :=by simp
theorem kk5 : ((5 : Int) = 1 ∨ (5 : Int) = 2) = False :=by simp
theorem kk6 : ((6 : Int) = 1 ∨ (6 : Int) = 2) = False :=by simp
end Go.Proofs.YtnelghpendfdmaaGreatDoor.KRow
