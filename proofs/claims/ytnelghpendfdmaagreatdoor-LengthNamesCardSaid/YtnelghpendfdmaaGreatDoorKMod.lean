/-
 The row's methods as functions of what is in the row: trees of requests (definitions alone).
-/
import Derived.Test.YtnelghpendfdmaaGreatDoorKDo
import Derived.Test.YtnelghpendfdmaaGreatDoorKRgd
namespace Go.Proofs.YtnelghpendfdmaaGreatDoor.KRow
open Go Go.RowKit Go.Proofs.YtnelghpendfdmaaGreatDoorW.PrintWords
set_option linter.unusedVariables false
def inc16 (x : Int) : Int :=IntKind.u16.wrap (x + 1)
def dec16 (x : Int) : Int :=IntKind.u16.wrap (x - 1)
def px (op : Int) : Int :=(vDParts op).1
def py (op : Int) : Int :=(vDParts op).2.1
def pz (op : Int) : Int :=(vDParts op).2.2.1
def pp (op : Int) : Int :=(vDParts op).2.2.2.1
def pq (op : Int) : Int :=(vDParts op).2.2.2.2
def Rw.idle (ρ : Rw) (t : Int) : Tr Unit :=(ρ.req 6 0 0 t).bind fun _ ρ => .ret () ρ
def Rw.read (ρ : Rw) (a : Int) : Tr Int :=(ρ.req 2 a 0 3).bind fun v ρ => .ret v ρ
def Rw.write (ρ : Rw) (a v : Int) : Tr Unit :=(ρ.req 3 a v 3).bind fun _ ρ => .ret () ρ
def Rw.inp (ρ : Rw) (a : Int) : Tr Int :=(ρ.req 4 a 0 4).bind fun v ρ => .ret v ρ
def Rw.out (ρ : Rw) (a v : Int) : Tr Unit :=(ρ.req 5 a v 4).bind fun _ ρ => .ret () ρ
def Rw.fetched (ρ : Rw) : Rw :={ ρ with pc :=inc16 ρ.pc,r :=ρ.toRg.refresh.r }
def Rw.fetch (ρ : Rw) : Tr Int :=(ρ.req 1 ρ.pc 0 4).bind fun v ρ => .ret v ρ.fetched
def Rw.next (ρ : Rw) : Tr Int :=(ρ.read ρ.pc).bind fun v ρ => .ret v { ρ with pc :=inc16 ρ.pc }
def Rw.halted (ρ : Rw) : Tr Unit :=(({ ρ with late :=false } : Rw).req 1 ρ.pc 0 4).bind fun _ ρ => .ret () { ρ with r :=ρ.toRg.refresh.r }
def Rw.word (ρ : Rw) : Tr Int :=ρ.next.bind fun l ρ => ρ.next.bind fun h ρ => .ret (wPair h l) ρ
def Rw.push (ρ : Rw) (v : Int) : Tr Unit :=
 (({ ρ with sp :=dec16 ρ.sp } : Rw).write (dec16 ρ.sp) (v / 256 % 256)).bind fun _ ρ => (({ ρ with sp :=dec16 ρ.sp } : Rw).write (dec16 ρ.sp) (v % 256)).bind fun _ ρ => .ret () ρ
def Rw.pop (ρ : Rw) : Tr Int :=
 (ρ.read ρ.sp).bind fun l ρ => (({ ρ with sp :=inc16 ρ.sp } : Rw).read (inc16 ρ.sp)).bind fun h ρ => .ret (wPair h l) { ρ with sp :=inc16 ρ.sp }
def Rw.pair (ρ : Rw) (c : Int) (st : Bool) : Int :=ρ.toRg.pair (rmod ρ.x 3) (rmod c 4) st
def Rw.putPair (ρ : Rw) (c : Int) (st : Bool) (v : Int) : Tr Unit :=.ret () (ρ.regs (ρ.toRg.putPair (rmod ρ.x 3) (rmod c 4) st v))
def Rw.byteIndex (ρ : Rw) : Int :=if ρ.disp = true then 0 else ρ.x
def Rw.put8 (ρ : Rw) (c v : Int) : Tr Unit :=.ret () (ρ.regs (ρ.toRg.put1 (rmod ρ.byteIndex 3) (rmod c 8) v))
def Rw.get8 (ρ : Rw) (c : Int) : Int :=ρ.toRg.get (rmod ρ.byteIndex 3) (rmod c 8)
def Rw.address (ρ : Rw) : Tr Int :=
 if ρ.x = 0 then .ret (ρ.pair 2 false) ρ else ρ.next.bind fun d ρ => (ρ.idle 5).bind fun _ ρ => .ret (vWPlus (ρ.pair 2 false) d) { ρ with wz :=vWPlus (ρ.pair 2 false) d }
def Rw.get (ρ : Rw) (c : Int) : Tr Int :=
 if c = 6 then ρ.address.bind fun a ρ => (({ ρ with adr :=a } : Rw).read a).bind fun v ρ => .ret v ρ else .ret (ρ.get8 c) ρ
def Rw.jump (ρ : Rw) (e : Int) : Tr Unit :=(ρ.idle 5).bind fun _ ρ => .ret () { ρ with pc :=vWPlus ρ.pc e,wz :=vWPlus ρ.pc e }
def Rw.crossed (ρ : Rw) (v : Int) : Int :=wPair ρ.a ((v + 1) % 256)
def Rw.cond (ρ : Rw) (y : Int) : Bool :=rcond ρ.f (rmod y 8)
def Rw.store (ρ : Rw) (v : Int) : Tr Unit :=
 ρ.word.bind fun nn ρ => (ρ.write nn (v % 256)).bind fun _ ρ => (ρ.write (inc16 nn) (v / 256 % 256)).bind fun _ ρ => .ret () { ρ with wz :=inc16 nn }
def Rw.load (ρ : Rw) : Tr Int :=
 ρ.word.bind fun nn ρ => (ρ.read nn).bind fun l ρ => (ρ.read (inc16 nn)).bind fun h ρ => .ret (wPair h l) { ρ with wz :=inc16 nn }
def Rw.call (ρ : Rw) (tg : Int) : Tr Unit :=(ρ.idle 1).bind fun _ ρ => (ρ.push ρ.pc).bind fun _ ρ => .ret () { ρ with pc :=tg }
def Rw.rets (ρ : Rw) : Tr Unit :=ρ.pop.bind fun v ρ => .ret () { ρ with pc :=v,wz :=v }
def Rw.bitsOp (ρ : Rw) (op v frm : Int) : Tr (Int × Bool) :=
 if px op = 0 then .ret ((vSShift1 (py op) v ρ.f),true) { ρ with f :=(vSShift2 (py op) v ρ.f) }
 else if px op = 1 then .ret (v,false) { ρ with f :=vSBit (py op) v frm ρ.f }
 else if px op = 2 then .ret (vSRes (py op) v,true) ρ
 else .ret (vSSet (py op) v,true) ρ
def m7 (op : Int) : Int :=Go.bits .and .i64 op 7
def Rw.setBits (ρ : Rw) (op : Int) : Tr Unit :=
 if m7 op = 6 then
  (ρ.read (ρ.toRg.pair (rmod 0 3) (rmod 2 4) false)).bind fun v ρ => (ρ.idle 1).bind fun _ ρ => (ρ.bitsOp op v (ρ.wz / 256 % 256)).bind fun p ρ1 =>
   if p.2 = true then (ρ1.write (ρ.toRg.pair (rmod 0 3) (rmod 2 4) false) p.1).bind fun _ ρ => .ret () ρ else .ret () ρ1
 else
  (ρ.bitsOp op (ρ.toRg.get (rmod 0 3) (rmod (m7 op) 8)) (ρ.toRg.get (rmod 0 3) (rmod (m7 op) 8))).bind fun p ρ =>
   if p.2 = true then .ret () (ρ.regs (ρ.toRg.put1 (rmod 0 3) (rmod (m7 op) 8) p.1)) else .ret () ρ
def Rw.bothAt (ρ : Rw) (d : Int) : Int :=vWPlus (ρ.toRg.pair (rmod ρ.x 3) (rmod 2 4) false) d
def Rw.setBoth (ρ : Rw) : Tr Unit :=
 ρ.next.bind fun d ρ => ρ.next.bind fun b ρ => (ρ.idle 2).bind fun _ ρ => (({ ρ with wz :=ρ.bothAt d } : Rw).read (ρ.bothAt d)).bind fun v ρ2 => (ρ2.idle 1).bind fun _ ρ2 =>
  (ρ2.bitsOp (wrap64 b) v (ρ.bothAt d / 256 % 256)).bind fun p ρ3 =>
   if p.2 = true then (ρ3.write (ρ.bothAt d) p.1).bind fun _ ρ => .ret () (ρ.regs (ρ.toRg.put1 (rmod 0 3) (rmod (m7 (wrap64 b)) 8) p.1)) else .ret () ρ3
def Rw.moves (ρ : Rw) (op p : Int) : Tr Unit :=
 if op = 2 ∨ op = 18 then (ρ.write (ρ.pair p false) ρ.a).bind fun _ ρ1 => .ret () { ρ1 with wz :=ρ1.crossed (ρ.pair p false) }
 else if op = 10 ∨ op = 26 then (ρ.read (ρ.pair p false)).bind fun v ρ1 => .ret () { ρ1 with a :=v,wz :=inc16 (ρ.pair p false) }
 else if op = 34 then (ρ.store (ρ.pair 2 false)).bind fun _ ρ => .ret () ρ
 else if op = 42 then ρ.load.bind fun v ρ => (ρ.putPair 2 false v).bind fun _ ρ => .ret () ρ
 else if op = 50 then ρ.word.bind fun nn ρ => (ρ.write nn ρ.a).bind fun _ ρ => .ret () { ρ with wz :=ρ.crossed nn }
 else ρ.word.bind fun nn ρ => (ρ.read nn).bind fun v ρ => .ret () { ρ with a :=v,wz :=inc16 nn }
def Rw.odd (ρ : Rw) (op : Int) : Tr Unit :=
 if op = 195 then ρ.word.bind fun v ρ => .ret () { ρ with wz :=v,pc :=v }
 else if op = 211 then ρ.next.bind fun n ρ => (ρ.out (wPair ρ.a n) ρ.a).bind fun _ ρ => .ret () { ρ with wz :=wPair ρ.a ((n + 1) % 256) }
 else if op = 219 then ρ.next.bind fun n ρ1 => (ρ1.inp (wPair ρ.a n)).bind fun v ρ2 => .ret () { ρ2 with a :=v,wz :=inc16 (wPair ρ.a n) }
 else if op = 227 then
  (ρ.read ρ.sp).bind fun l ρ => (ρ.read (inc16 ρ.sp)).bind fun h ρ => (ρ.idle 1).bind fun _ ρ => (ρ.write (inc16 ρ.sp) (ρ.pair 2 false / 256 % 256)).bind fun _ ρ1 => (ρ1.write ρ1.sp (ρ.pair 2 false % 256)).bind fun _ ρ =>
  (ρ.idle 2).bind fun _ ρ => (({ ρ with wz :=wPair h l } : Rw).putPair 2 false (wPair h l)).bind fun _ ρ => .ret () ρ
 else if op = 235 then .ret () (ρ.regs (ρ.toRg.swap (rmod 2 3)))
 else if op = 243 then .ret () { ρ with ff1 :=false,ff2 :=false }
 else if op = 251 then .ret () { ρ with ff1 :=true,ff2 :=true,late :=true }
 else .ret () ρ
def ownFlags (v f : Int) (b : Bool) : Int :=Go.bits .or .u8 (Go.bits .or .u8 (aOwn v) (vIf1 b 4)) (Go.bits .and .u8 f 1)
def Rw.accumulator (ρ : Rw) (y hl : Int) : Tr Unit :=
 if y = 0 ∨ y = 1 ∨ y = 2 ∨ y = 3 then (ρ.idle 1).bind fun _ ρ =>
  if y = 0 then .ret () { ρ with i :=ρ.a } else if y = 1 then .ret () { ρ with r :=ρ.a }
  else if y = 2 then .ret () { ρ with a :=ρ.i,f :=ownFlags ρ.i ρ.f ρ.ff2 } else .ret () { ρ with a :=ρ.r,f :=ownFlags ρ.r ρ.f ρ.ff2 }
 else if y = 4 ∨ y = 5 then (ρ.read hl).bind fun v ρ => (ρ.idle 4).bind fun _ ρ =>
  if y = 4 then (ρ.write hl (vSRrd2 ρ.a v ρ.f)).bind fun _ ρ1 => .ret () { ρ1 with a :=(vSRrd1 ρ.a v ρ.f),f :=(vSRrd3 ρ.a v ρ.f),wz :=inc16 hl }
  else (ρ.write hl (vSRld2 ρ.a v ρ.f)).bind fun _ ρ1 => .ret () { ρ1 with a :=(vSRld1 ρ.a v ρ.f),f :=(vSRld3 ρ.a v ρ.f),wz :=inc16 hl }
 else .ret () ρ
end Go.Proofs.YtnelghpendfdmaaGreatDoor.KRow
