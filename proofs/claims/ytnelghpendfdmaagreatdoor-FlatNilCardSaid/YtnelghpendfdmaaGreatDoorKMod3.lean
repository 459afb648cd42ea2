/-
 The row's methods as functions of what is in the row: trees of requests (definitions alone).
-/
import Derived.Test.YtnelghpendfdmaaGreatDoorKDo
import Derived.Test.YtnelghpendfdmaaGreatDoorKRgd
namespace Go.Proofs.YtnelghpendfdmaaGreatDoor.KRow
open Go Go.RowKit Go.Proofs.YtnelghpendfdmaaGreatDoorW.PrintWords
set_option linter.unusedVariables false
def inc16 (x : Int) : Int :=IntKind.u16.wrap (x + 1)
def dec16 (x : Int) : Int :=IntKind.u16.wrap (x - 1)
def px (op : Int) : Int :=(vDParts op).1
def py (op : Int) : Int :=(vDParts op).2.1
def pz (op : Int) : Int :=(vDParts op).2.2.1
def pp (op : Int) : Int :=(vDParts op).2.2.2.1
def pq (op : Int) : Int :=(vDParts op).2.2.2.2
def Rw.idle (ρ : Rw) (t : Int) : Tr Unit :=(ρ.req 6 0 0 t).bind fun _ ρ => .ret () ρ
def Rw.read (ρ : Rw) (a : Int) : Tr Int :=(ρ.req 2 a 0 3).bind fun v ρ => .ret v ρ
def Rw.write (ρ : Rw) (a v : Int) : Tr Unit :=(ρ.req 3 a v 3).bind fun _ ρ => .ret () ρ
def Rw.inp (ρ : Rw) (a : Int) : Tr Int :=(ρ.req 4 a 0 4).bind fun v ρ => .ret v ρ
def Rw.out (ρ : Rw) (a v : Int) : Tr Unit :=(ρ.req 5 a v 4).bind fun _ ρ => .ret () ρ
def Rw.fetched (ρ : Rw) : Rw :={ ρ with pc :=inc16 ρ.pc,r :=ρ.toRg.refresh.r }
def Rw.fetch (ρ : Rw) : Tr Int :=(ρ.req 1 ρ.pc 0 4).bind fun v ρ => .ret v ρ.fetched
def Rw.next (ρ : Rw) : Tr Int :=(ρ.read ρ.pc).bind fun v ρ => .ret v { ρ with pc :=inc16 ρ.pc }
def Rw.halted (ρ : Rw) : Tr Unit :=(({ ρ with late :=false } : Rw).req 1 ρ.pc 0 4).bind fun _ ρ => .ret () { ρ with r :=ρ.toRg.refresh.r }
def Rw.word (ρ : Rw) : Tr Int :=ρ.next.bind fun l ρ => ρ.next.bind fun h ρ => .ret (wPair h l) ρ
def Rw.push (ρ : Rw) (v : Int) : Tr Unit :=
 (({ ρ with sp :=dec16 ρ.sp } : Rw).write (dec16 ρ.sp) (v / 256 % 256)).bind fun _ ρ => (({ ρ with sp :=dec16 ρ.sp } : Rw).write (dec16 ρ.sp) (v % 256)).bind fun _ ρ => .ret () ρ
def Rw.pop (ρ : Rw) : Tr Int :=
 (ρ.read ρ.sp).bind fun l ρ => (({ ρ with sp :=inc16 ρ.sp } : Rw).read (inc16 ρ.sp)).bind fun h ρ => .ret (wPair h l) { ρ with sp :=inc16 ρ.sp }
def Rw.pair (ρ : Rw) (c : Int) (st : Bool) : Int :=ρ.toRg.pair (rmod ρ.x 3) (rmod c 4) st
def Rw.putPair (ρ : Rw) (c : Int) (st : Bool) (v : Int) : Tr Unit :=.ret () (ρ.regs (ρ.toRg.putPair (rmod ρ.x 3) (rmod c 4) st v))
def Rw.byteIndex (ρ : Rw) : Int :=if ρ.disp = true then 0 else ρ.x
def Rw.put8 (ρ : Rw) (c v : Int) : Tr Unit :=.ret () (ρ.regs (ρ.toRg.put1 (rmod ρ.byteIndex 3) (rmod c 8) v))
def Rw.get8 (ρ : Rw) (c : Int) : Int :=ρ.toRg.get (rmod ρ.byteIndex 3) (rmod c 8)
def Rw.address (ρ : Rw) : Tr Int :=
 if ρ.x = 0 then .ret (ρ.pair 2 false) ρ else ρ.next.bind fun d ρ => (ρ.idle 5).bind fun _ ρ => .ret (vWPlus (ρ.pair 2 false) d) { ρ with wz :=vWPlus (ρ.pair 2 false) d }
def Rw.get (ρ : Rw) (c : Int) : Tr Int :=
 if c = 6 then ρ.address.bind fun a ρ => (({ ρ with adr :=a } : Rw).read a).bind fun v ρ => .ret v ρ else .ret (ρ.get8 c) ρ
def Rw.jump (ρ : Rw) (e : Int) : Tr Unit :=(ρ.idle 5).bind fun _ ρ => .ret () { ρ with pc :=vWPlus ρ.pc e,wz :=vWPlus ρ.pc e }
def Rw.crossed (ρ : Rw) (v : Int) : Int :=wPair ρ.a ((v + 1) % 256)
def Rw.cond (ρ : Rw) (y : Int) : Bool :=rcond ρ.f (rmod y 8)
def Rw.store (ρ : Rw) (v : Int) : Tr Unit :=
 ρ.word.bind fun nn ρ => (ρ.write nn (v % 256)).bind fun _ ρ => (ρ.write (inc16 nn) (v / 256 % 256)).bind fun _ ρ => .ret () { ρ with wz :=inc16 nn }
def Rw.load (ρ : Rw) : Tr Int :=
 ρ.word.bind fun nn ρ => (ρ.read nn).bind fun l ρ => (ρ.read (inc16 nn)).bind fun h ρ => .ret (wPair h l) { ρ with wz :=inc16 nn }
def Rw.call (ρ : Rw) (tg : Int) : Tr Unit :=(ρ.idle 1).bind fun _ ρ => (ρ.push ρ.pc).bind fun _ ρ => .ret () { ρ with pc :=tg }
def Rw.rets (ρ : Rw) : Tr Unit :=ρ.pop.bind fun v ρ => .ret () { ρ with pc :=v,wz :=v }
def Rw.bitsOp (ρ : Rw) (op v frm : Int) : Tr (Int × Bool) :=
 if px op = 0 then .ret ((vSShift1 (py op) v ρ.f),true) { ρ with f :=(vSShift2 (py op) v ρ.f) }
 else if px op = 1 then .ret (v,false) { ρ with f :=vSBit (py op) v frm ρ.f }
 else if px op = 2 then .ret (vSRes (py op) v,true) ρ
 else .ret (vSSet (py op) v,true) ρ
def m7 (op : Int) : Int :=Go.bits .and .i64 op 7
def Rw.setBits (ρ : Rw) (op : Int) : Tr Unit :=
 if m7 op = 6 then
  (ρ.read (ρ.toRg.pair (rmod 0 3) (rmod 2 4) false)).bind fun v ρ => (ρ.idle 1).bind fun _ ρ => (ρ.bitsOp op v (ρ.wz / 256 % 256)).bind fun p ρ1 =>
   if p.2 = true then (ρ1.write (ρ.toRg.pair (rmod 0 3) (rmod 2 4) false) p.1).bind fun _ ρ => .ret () ρ else .ret () ρ1
 else
  (ρ.bitsOp op (ρ.toRg.get (rmod 0 3) (rmod (m7 op) 8)) (ρ.toRg.get (rmod 0 3) (rmod (m7 op) 8))).bind fun p ρ =>
   if p.2 = true then .ret () (ρ.regs (ρ.toRg.put1 (rmod 0 3) (rmod (m7 op) 8) p.1)) else .ret () ρ
def Rw.bothAt (ρ : Rw) (d : Int) : Int :=vWPlus (ρ.toRg.pair (rmod ρ.x 3) (rmod 2 4) false) d
def Rw.setBoth (ρ : Rw) : Tr Unit :=
 ρ.next.bind fun d ρ => ρ.next.bind fun b ρ => (ρ.idle 2).bind fun _ ρ => (({ ρ with wz :=ρ.bothAt d } : Rw).read (ρ.bothAt d)).bind fun v ρ2 => (ρ2.idle 1).bind fun _ ρ2 =>
  (ρ2.bitsOp (wrap64 b) v (ρ.bothAt d / 256 % 256)).bind fun p ρ3 =>
   if p.2 = true then (ρ3.write (ρ.bothAt d) p.1).bind fun _ ρ => .ret () (ρ.regs (ρ.toRg.put1 (rmod 0 3) (rmod (m7 (wrap64 b)) 8) p.1)) else .ret () ρ3
def Rw.moves (ρ : Rw) (op p : Int) : Tr Unit :=
 if op = 2 ∨ op = 18 then (ρ.write (ρ.pair p false) ρ.a).bind fun _ ρ1 => .ret () { ρ1 with wz :=ρ1.crossed (ρ.pair p false) }
 else if op = 10 ∨ op = 26 then (ρ.read (ρ.pair p false)).bind fun v ρ1 => .ret () { ρ1 with a :=v,wz :=inc16 (ρ.pair p false) }
 else if op = 34 then (ρ.store (ρ.pair 2 false)).bind fun _ ρ => .ret () ρ
 else if op = 42 then ρ.load.bind fun v ρ => (ρ.putPair 2 false v).bind fun _ ρ => .ret () ρ
 else if op = 50 then ρ.word.bind fun nn ρ => (ρ.write nn ρ.a).bind fun _ ρ => .ret () { ρ with wz :=ρ.crossed nn }
 else ρ.word.bind fun nn ρ => (ρ.read nn).bind fun v ρ => .ret () { ρ with a :=v,wz :=inc16 nn }
def Rw.odd (ρ : Rw) (op : Int) : Tr Unit :=
 if op = 195 then ρ.word.bind fun v ρ => .ret () { ρ with wz :=v,pc :=v }
 else if op = 211 then ρ.next.bind fun n ρ => (ρ.out (wPair ρ.a n) ρ.a).bind fun _ ρ => .ret () { ρ with wz :=wPair ρ.a ((n + 1) % 256) }
 else if op = 219 then ρ.next.bind fun n ρ1 => (ρ1.inp (wPair ρ.a n)).bind fun v ρ2 => .ret () { ρ2 with a :=v,wz :=inc16 (wPair ρ.a n) }
 else if op = 227 then
  (ρ.read ρ.sp).bind fun l ρ => (ρ.read (inc16 ρ.sp)).bind fun h ρ => (ρ.idle 1).bind fun _ ρ => (ρ.write (inc16 ρ.sp) (ρ.pair 2 false / 256 % 256)).bind fun _ ρ1 => (ρ1.write ρ1.sp (ρ.pair 2 false % 256)).bind fun _ ρ =>
  (ρ.idle 2).bind fun _ ρ => (({ ρ with wz :=wPair h l } : Rw).putPair 2 false (wPair h l)).bind fun _ ρ => .ret () ρ
 else if op = 235 then .ret () (ρ.regs (ρ.toRg.swap (rmod 2 3)))
 else if op = 243 then .ret () { ρ with ff1 :=false,ff2 :=false }
 else if op = 251 then .ret () { ρ with ff1 :=true,ff2 :=true,late :=true }
 else .ret () ρ
def ownFlags (v f : Int) (b : Bool) : Int :=Go.bits .or .u8 (Go.bits .or .u8 (aOwn v) (vIf1 b 4)) (Go.bits .and .u8 f 1)
def Rw.accumulator (ρ : Rw) (y hl : Int) : Tr Unit :=
 if y = 0 ∨ y = 1 ∨ y = 2 ∨ y = 3 then (ρ.idle 1).bind fun _ ρ =>
  if y = 0 then .ret () { ρ with i :=ρ.a } else if y = 1 then .ret () { ρ with r :=ρ.a }
  else if y = 2 then .ret () { ρ with a :=ρ.i,f :=ownFlags ρ.i ρ.f ρ.ff2 } else .ret () { ρ with a :=ρ.r,f :=ownFlags ρ.r ρ.f ρ.ff2 }
 else if y = 4 ∨ y = 5 then (ρ.read hl).bind fun v ρ => (ρ.idle 4).bind fun _ ρ =>
  if y = 4 then (ρ.write hl (vSRrd2 ρ.a v ρ.f)).bind fun _ ρ1 => .ret () { ρ1 with a :=(vSRrd1 ρ.a v ρ.f),f :=(vSRrd3 ρ.a v ρ.f),wz :=inc16 hl }
  else (ρ.write hl (vSRld2 ρ.a v ρ.f)).bind fun _ ρ1 => .ret () { ρ1 with a :=(vSRld1 ρ.a v ρ.f),f :=(vSRld3 ρ.a v ρ.f),wz :=inc16 hl }
 else .ret () ρ
end Go.Proofs.YtnelghpendfdmaaGreatDoor.KRow
/-
 The row's methods low, high, main as functions of what is in the row: trees of requests (definitions alone).
-/
namespace Go.Proofs.YtnelghpendfdmaaGreatDoor.KRow
open Go Go.RowKit Go.Proofs.YtnelghpendfdmaaGreatDoorW.PrintWords
open Go.Proofs.YtnelghpendfdmaaGreatDoor.HFun
set_option linter.unusedVariables false
def decB (b : Int) : Int :=(b - 1) % 256
def Rw.low0 (ρ : Rw) (y : Int) : Tr Unit :=
 if y = 0 then .ret () ρ
 else if y = 1 then .ret () (ρ.regs (ρ.toRg.swap (rmod 0 3)))
 else if y = 2 then (ρ.idle 1).bind fun _ ρ => (({ ρ with b :=decB ρ.b } : Rw).next).bind fun e ρ => if ρ.b = 0 then .ret () ρ else (ρ.jump e).bind fun _ ρ => .ret () ρ
 else ρ.next.bind fun e ρ => if y = 3 then (ρ.jump e).bind fun _ ρ => .ret () ρ else if ρ.cond (wrap64 (y - 4)) = true then (ρ.jump e).bind fun _ ρ => .ret () ρ else .ret () ρ
def Rw.low1 (ρ : Rw) (p q : Int) : Tr Unit :=
 if q = 0 then ρ.word.bind fun v ρ => (ρ.putPair p false v).bind fun _ ρ => .ret () ρ
 else (ρ.idle 7).bind fun _ ρ =>
  (({ ρ with wz :=inc16 (ρ.pair 2 false) } : Rw).putPair 2 false (vWAdd1 (ρ.pair 2 false) (({ ρ with wz :=inc16 (ρ.pair 2 false) } : Rw).pair p false) ρ.f)).bind fun _ ρ1 => .ret () { ρ1 with f :=(vWAdd2 (ρ.pair 2 false) (({ ρ with wz :=inc16 (ρ.pair 2 false) } : Rw).pair p false) ρ.f) }
def Rw.low3 (ρ : Rw) (p q : Int) : Tr Unit :=
 (ρ.idle 2).bind fun _ ρ => (ρ.putPair p false (IntKind.u16.wrap (inc16 (ρ.pair p false) - IntKind.u16.wrap (wrap64 (2 * q))))).bind fun _ ρ => .ret () ρ
def Rw.low45 (ρ : Rw) (y z : Int) : Tr Unit :=
 (ρ.get y).bind fun v ρ =>
  if y = 6 then (ρ.idle 1).bind fun _ ρ => if z = 4 then (({ ρ with f :=(vAInc2 v ρ.f) } : Rw).write ρ.adr (vAInc1 v ρ.f)).bind fun _ ρ => .ret () ρ else (({ ρ with f :=(vADec2 v ρ.f) } : Rw).write ρ.adr (vADec1 v ρ.f)).bind fun _ ρ => .ret () ρ
  else if z = 4 then (({ ρ with f :=(vAInc2 v ρ.f) } : Rw).put8 y (vAInc1 v ρ.f)).bind fun _ ρ => .ret () ρ else (({ ρ with f :=(vADec2 v ρ.f) } : Rw).put8 y (vADec1 v ρ.f)).bind fun _ ρ => .ret () ρ
def Rw.low6 (ρ : Rw) (y : Int) : Tr Unit :=
 if y = 6 then
  if ρ.x = 0 then ρ.next.bind fun n ρ => (ρ.write (ρ.pair 2 false) n).bind fun _ ρ => .ret () ρ
  else ρ.next.bind fun d ρ => ρ.next.bind fun n ρ => (ρ.idle 2).bind fun _ ρ => (({ ρ with wz :=vWPlus (ρ.pair 2 false) d } : Rw).write (vWPlus (ρ.pair 2 false) d) n).bind fun _ ρ => .ret () ρ
 else ρ.next.bind fun n ρ => (ρ.put8 y n).bind fun _ ρ => .ret () ρ
def Rw.low7 (ρ : Rw) (y : Int) : Tr Unit :=
 if y = 0 ∨ y = 1 ∨ y = 2 ∨ y = 3 then .ret () { ρ with a :=(vSTurn1 y ρ.a ρ.f),f :=(vSTurn2 y ρ.a ρ.f) }
 else if y = 4 then .ret () { ρ with a :=(vSDaa1 ρ.a ρ.f),f :=(vSDaa2 ρ.a ρ.f) }
 else if y = 5 then .ret () { ρ with a :=(vSCpl1 ρ.a ρ.f),f :=(vSCpl2 ρ.a ρ.f) }
 else if y = 6 then .ret () { ρ with f :=vSScf ρ.a ρ.f }
 else .ret () { ρ with f :=vSCcf ρ.a ρ.f }
def Rw.low (ρ : Rw) (op y z p q : Int) : Tr Unit :=
 if z = 0 then ρ.low0 y else if z = 1 then ρ.low1 p q else if z = 2 then ρ.moves op p else if z = 3 then ρ.low3 p q
 else if z = 4 ∨ z = 5 then ρ.low45 y z else if z = 6 then ρ.low6 y else ρ.low7 y
def Rw.high1 (ρ : Rw) (p q : Int) : Tr Unit :=
 if q = 0 then ρ.pop.bind fun v ρ => (ρ.putPair p true v).bind fun _ ρ => .ret () ρ
 else if p = 0 then ρ.rets.bind fun _ ρ => .ret () ρ
 else if p = 1 then .ret () (ρ.regs (ρ.toRg.swap (rmod 1 3)))
 else if p = 2 then .ret () { ρ with pc :=ρ.pair 2 false }
 else (ρ.idle 2).bind fun _ ρ => .ret () { ρ with sp :=ρ.pair 2 false }
def Rw.high5 (ρ : Rw) (op p q : Int) : Tr Unit :=
 if q = 0 then (ρ.idle 1).bind fun _ ρ => (ρ.push (ρ.pair p true)).bind fun _ ρ => .ret () ρ
 else if op = 205 then ρ.word.bind fun v ρ => (({ ρ with wz :=v } : Rw).call v).bind fun _ ρ => .ret () ρ
 else .ret () ρ
def Rw.high (ρ : Rw) (op y z p q : Int) : Tr Unit :=
 if z = 0 then (ρ.idle 1).bind fun _ ρ => if ρ.cond y = true then ρ.rets.bind fun _ ρ => .ret () ρ else .ret () ρ
 else if z = 1 then ρ.high1 p q
 else if z = 2 then ρ.word.bind fun v ρ => if ({ ρ with wz :=v } : Rw).cond y = true then .ret () { ρ with wz :=v,pc :=v } else .ret () { ρ with wz :=v }
 else if z = 3 then (ρ.odd op).bind fun _ ρ => .ret () ρ
 else if z = 4 then ρ.word.bind fun v ρ => if ({ ρ with wz :=v } : Rw).cond y = true then (({ ρ with wz :=v } : Rw).call v).bind fun _ ρ => .ret () ρ else .ret () { ρ with wz :=v }
 else if z = 5 then ρ.high5 op p q
 else if z = 6 then ρ.next.bind fun v ρ => .ret () { ρ with a :=(vDo1 y ρ.a v ρ.f),f :=(vDo2 y ρ.a v ρ.f) }
 else (ρ.call (IntKind.u16.wrap (wrap64 (8 * y)))).bind fun _ ρ => .ret () { ρ with wz :=ρ.pc }
def vNeeds (s x op : Int) : Bool × Int :=(decode_Needs.f 24 s x op).getD (false,0)
def vNeeds1 (s x op : Int) : Bool :=(vNeeds s x op).1
def vNeeds2 (s x op : Int) : Int :=(vNeeds s x op).2
def Rw.main (ρ : Rw) (op : Int) : Tr Unit :=
 (fun ρ : Rw =>
  if px op = 0 then (ρ.low op (py op) (pz op) (pp op) (pq op)).bind fun _ ρ => .ret () ρ
  else if px op = 1 then
   if op = 118 then .ret () { ρ with halt :=true }
   else if py op = 6 then ρ.address.bind fun a ρ => (ρ.write a (ρ.toRg.get (rmod 0 3) (rmod (pz op) 8))).bind fun _ ρ => .ret () ρ
   else (ρ.get (pz op)).bind fun v ρ => (ρ.put8 (py op) v).bind fun _ ρ => .ret () ρ
  else if px op = 2 then (ρ.get (pz op)).bind fun v ρ => .ret () { ρ with a :=(vDo1 (py op) ρ.a v ρ.f),f :=(vDo2 (py op) ρ.a v ρ.f) }
  else (ρ.high op (py op) (pz op) (pp op) (pq op)).bind fun _ ρ => .ret () ρ) { ρ with disp :=(vNeeds1 0 ρ.x op) }
def sub2 (x : Int) : Int :=IntKind.u16.wrap (x - 2)
def Rw.again (ρ : Rw) (b : Bool) : Tr Unit :=if b = true then (ρ.idle 5).bind fun _ ρ => .ret () { ρ with pc :=sub2 ρ.pc,wz :=inc16 (sub2 ρ.pc) } else .ret () ρ
def add16 (x s : Int) : Int :=IntKind.u16.wrap (x + s)
def Rw.hl0 (ρ : Rw) : Int :=wPair ρ.h ρ.l
def Rw.de0 (ρ : Rw) : Int :=wPair ρ.d ρ.e
def Rw.bc0 (ρ : Rw) : Int :=wPair ρ.b ρ.c
def Rw.blockTail0 (ρ : Rw) (hl de bc s v : Int) : Rw :={ ρ with h :=add16 hl s / 256 % 256,l :=add16 hl s % 256,d :=add16 de s / 256 % 256,e :=add16 de s % 256,b :=dec16 bc / 256 % 256,c :=dec16 bc % 256,f :=vWMove ρ.a v (dec16 bc) ρ.f }
def Rw.block0 (ρ : Rw) (s : Int) (rep : Bool) : Tr Unit :=
 (ρ.read ρ.hl0).bind fun v ρ1 => (ρ1.write ρ.de0 v).bind fun _ ρ1 => (ρ1.idle 2).bind fun _ ρ1 =>
  ((ρ1.blockTail0 ρ.hl0 ρ.de0 ρ.bc0 s v).again (rep && (dec16 ρ.bc0 != 0))).bind fun _ ρ => .ret () ρ
def Rw.blockTail1 (ρ : Rw) (hl bc s v : Int) : Rw :={ ρ with h :=add16 hl s / 256 % 256,l :=add16 hl s % 256,b :=dec16 bc / 256 % 256,c :=dec16 bc % 256,wz :=add16 ρ.wz s,f :=vWFind ρ.a v (dec16 bc) ρ.f }
def Rw.block1 (ρ : Rw) (s : Int) (rep : Bool) : Tr Unit :=
 (ρ.read ρ.hl0).bind fun v ρ1 => (ρ1.idle 5).bind fun _ ρ1 =>
  ((ρ1.blockTail1 ρ.hl0 ρ.bc0 s v).again (rep && ((dec16 ρ.bc0 != 0) && (Go.bits .and .u8 (vWFind ρ1.a v (dec16 ρ.bc0) ρ1.f) 64 == 0)))).bind fun _ ρ => .ret () ρ
def Rw.block2 (ρ : Rw) (s s8 : Int) (rep : Bool) : Tr Unit :=
 (ρ.idle 1).bind fun _ ρ1 => (ρ1.inp ρ.bc0).bind fun v ρ1 => (({ ρ1 with wz :=add16 ρ.bc0 s,b :=decB ρ1.b } : Rw).write ρ.hl0 v).bind fun _ ρ1 =>
  (({ ρ1 with h :=add16 ρ.hl0 s / 256 % 256,l :=add16 ρ.hl0 s % 256,f :=vWPort v ρ1.b ((ρ1.c + s8) % 256) } : Rw).again (rep && (ρ1.b != 0))).bind fun _ ρ => .ret () ρ
def Rw.block3 (ρ : Rw) (s : Int) (rep : Bool) : Tr Unit :=
 (ρ.idle 1).bind fun _ ρ1 => (ρ1.read ρ.hl0).bind fun v ρ1 =>
  (({ ρ1 with h :=add16 ρ.hl0 s / 256 % 256,l :=add16 ρ.hl0 s % 256,b :=decB ρ1.b } : Rw).out (wPair (decB ρ1.b) ρ1.c) v).bind fun _ ρ2 =>
  (({ ρ2 with wz :=add16 (wPair (decB ρ1.b) ρ1.c) s,f :=vWPort v ρ2.b ρ2.l } : Rw).again (rep && (ρ2.b != 0))).bind fun _ ρ => .ret () ρ
def Rw.block (ρ : Rw) (y z : Int) : Tr Unit :=
 if Go.bits .and .i64 y 1 = 1 then (if z = 0 then ρ.block0 65535 (decide (6 ≤ y)) else if z = 1 then ρ.block1 65535 (decide (6 ≤ y)) else if z = 2 then ρ.block2 65535 255 (decide (6 ≤ y)) else ρ.block3 65535 (decide (6 ≤ y)))
 else (if z = 0 then ρ.block0 1 (decide (6 ≤ y)) else if z = 1 then ρ.block1 1 (decide (6 ≤ y)) else if z = 2 then ρ.block2 1 1 (decide (6 ≤ y)) else ρ.block3 1 (decide (6 ≤ y)))
end Go.Proofs.YtnelghpendfdmaaGreatDoor.KRow
/-
 The row's methods setMore, instruction, interrupt as functions of what is in the row: trees of requests (definitions alone).
-/
namespace Go.Proofs.YtnelghpendfdmaaGreatDoor.KRow
open Go Go.RowKit Go.Proofs.YtnelghpendfdmaaGreatDoorW.PrintWords
open Go.Proofs.YtnelghpendfdmaaGreatDoor.HFun
set_option linter.unusedVariables false
def imOf (y : Int) : Int :=if y % 4 = 2 then 1 else if y % 4 = 3 then 2 else 0
noncomputable def Rw.more1 (ρ : Rw) (y z p q : Int) : Tr Unit :=
 if z = 0 then (ρ.inp ρ.bc0).bind fun v ρ1 => .ret () { ρ1.regs (ρ1.toRg.put1 (rmod 0 3) (rmod y 8) v) with f :=ownFlags v (ρ1.toRg.put1 (rmod 0 3) (rmod y 8) v).f (aParity v),wz :=inc16 ρ.bc0 }
 else if z = 1 then (ρ.out ρ.bc0 (ρ.toRg.get (rmod 0 3) (rmod y 8))).bind fun _ ρ1 => .ret () { ρ1 with wz :=inc16 ρ.bc0 }
 else if z = 2 then (ρ.idle 7).bind fun _ ρ =>
  if q = 0 then .ret () { ρ with wz :=inc16 ρ.hl0,h :=(vWSbc1 ρ.hl0 (({ ρ with wz :=inc16 ρ.hl0 } : Rw).pair p false) ρ.f) / 256 % 256,l :=(vWSbc1 ρ.hl0 (({ ρ with wz :=inc16 ρ.hl0 } : Rw).pair p false) ρ.f) % 256,f :=(vWSbc2 ρ.hl0 (({ ρ with wz :=inc16 ρ.hl0 } : Rw).pair p false) ρ.f) }
  else .ret () { ρ with wz :=inc16 ρ.hl0,h :=(vWAdc1 ρ.hl0 (({ ρ with wz :=inc16 ρ.hl0 } : Rw).pair p false) ρ.f) / 256 % 256,l :=(vWAdc1 ρ.hl0 (({ ρ with wz :=inc16 ρ.hl0 } : Rw).pair p false) ρ.f) % 256,f :=(vWAdc2 ρ.hl0 (({ ρ with wz :=inc16 ρ.hl0 } : Rw).pair p false) ρ.f) }
 else if z = 3 then (if q = 0 then (ρ.store (ρ.pair p false)).bind fun _ ρ => .ret () ρ else ρ.load.bind fun v ρ => (ρ.putPair p false v).bind fun _ ρ => .ret () ρ)
 else if z = 4 then .ret () { ρ with a :=(vANeg1 ρ.a),f :=(vANeg2 ρ.a) }
 else if z = 5 then (({ ρ with ff1 :=ρ.ff2 } : Rw).rets).bind fun _ ρ => .ret () ρ
 else if z = 6 then .ret () { ρ with im :=imOf y }
 else (ρ.accumulator y ρ.hl0).bind fun _ ρ => .ret () ρ
noncomputable def Rw.setMore (ρ : Rw) (op : Int) : Tr Unit :=
 if px op = 2 ∧ 4 ≤ py op ∧ pz op ≤ 3 then (ρ.block (py op) (pz op)).bind fun _ ρ => .ret () ρ
 else if px op = 1 then ρ.more1 (py op) (pz op) (pp op) (pq op) else .ret () ρ
def Rw.second (ρ : Rw) : Tr Unit :=
 ρ.fetch.bind fun op ρ => if op = 203 then ρ.setBoth.bind fun _ ρ => .ret () ρ else if op = 221 ∨ op = 237 ∨ op = 253 then .ret () ρ else (ρ.main (wrap64 op)).bind fun _ ρ => .ret () ρ
noncomputable def Rw.instr (ρ : Rw) (one : Bool) : Tr Unit :=
 if ρ.halt = true then ρ.halted.bind fun _ ρ => .ret () ρ
 else (({ ρ with late :=false } : Rw).fetch).bind fun op ρ =>
  if op = 221 ∨ op = 253 then
   if one = true ∧ (ρ.peek = 221 ∨ ρ.peek = 237 ∨ ρ.peek = 253) then .ret () { ρ with late :=true }
   else if op = 253 then ({ ρ with x :=2 } : Rw).second else ({ ρ with x :=1 } : Rw).second
  else if op = 203 then ρ.fetch.bind fun b ρ => (ρ.setBits (wrap64 b)).bind fun _ ρ => .ret () ρ
  else if op = 237 then ρ.fetch.bind fun b ρ => (ρ.setMore (wrap64 b)).bind fun _ ρ => .ret () ρ
  else (ρ.main (wrap64 op)).bind fun _ ρ => .ret () ρ
end Go.Proofs.YtnelghpendfdmaaGreatDoor.KRow
