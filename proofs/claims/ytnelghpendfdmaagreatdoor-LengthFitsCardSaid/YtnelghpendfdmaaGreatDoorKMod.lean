/-
 PROVED: alu.Do's contract over the table of operators.
-/
import Derived.Test.YtnelghpendfdmaaGreatDoorKTot
import Derived.Test.YtnelghpendfdmaaGreatDoorKRgd
namespace Go.Proofs.YtnelghpendfdmaaGreatDoor.KRow
set_option maxRecDepth 100000
set_option maxHeartbeats 16000000
open Go Go.RowKit Go.Proofs.YtnelghpendfdmaaGreatDoorW.PrintWords Go.Proofs.YtnelghpendfdmaaGreatDoorW.PrintLast Go.Proofs.YtnelghpendfdmaaGreatDoorW.PrintMore
open Go.Proofs.YtnelghpendfdmaaGreatDoor.HFun
set_option linter.unusedVariables false
set_option linter.unusedSimpArgs false
def vDo (o a b f : Int) : Int × Int :=
 if o % 8 = 0 then vAAdd a b false else if o % 8 = 1 then vAAdd a b (Go.bits .and .u8 f 1 != 0) else if o % 8 = 2 then vASub a b false else if o % 8 = 3 then vASub a b (Go.bits .and .u8 f 1 != 0)
 else if o % 8 = 4 then vAAnd a b else if o % 8 = 5 then vAXor a b else if o % 8 = 6 then vAOr a b else (a,vACp a b)
def vDo1 (o a b f : Int) : Int :=(vDo o a b f).1
def vDo2 (o a b f : Int) : Int :=(vDo o a b f).2
theorem do_0 (o a b f : Int) (w : World) (ho : Go.bits .and .i64 o 7 = 0) (c : w.cell? ⟨0,0,none⟩ = some (.func (.func 179) #[] #[])) :
  Calls Tryz.prog 96 #[.int .i64 o,.int .u8 a,.int .u8 b,.int .u8 f] w fun e w' => e = .returned (.tuple #[.int .u8 (vAAdd a b false).1,.int .u8 (vAAdd a b false).2]) ∧ Below w.heap.size w w' :=by
 go_enter Tryz.func96,Tryz.ntmps96
 go_wp2_with fail
 go_in
 go_wp2_with fail
 refine (c_alu_Add _ _ _ _).mono ?_
 rintro e w' ⟨rfl,hb⟩
 go_wp2
 go_ret2
 exact ⟨rfl,hb⟩
theorem do_1 (o a b f : Int) (w : World) (ho : Go.bits .and .i64 o 7 = 1) (c : w.cell? ⟨0,1,none⟩ = some (.func (.func 180) #[] #[])) :
  Calls Tryz.prog 96 #[.int .i64 o,.int .u8 a,.int .u8 b,.int .u8 f] w fun e w' => e = .returned (.tuple #[.int .u8 (vAAdd a b (Go.bits .and .u8 f 1 != 0)).1,.int .u8 (vAAdd a b (Go.bits .and .u8 f 1 != 0)).2]) ∧ Below w.heap.size w w' :=by
 go_enter Tryz.func96,Tryz.ntmps96
 go_wp2_with fail
 go_in
 go_wp2_with fail
 refine (c_alu_Add _ _ _ _).mono ?_
 rintro e w' ⟨rfl,hb⟩
 go_wp2
 go_ret2
 exact ⟨rfl,hb⟩
theorem do_2 (o a b f : Int) (w : World) (ho : Go.bits .and .i64 o 7 = 2) (c : w.cell? ⟨0,2,none⟩ = some (.func (.func 181) #[] #[])) :
  Calls Tryz.prog 96 #[.int .i64 o,.int .u8 a,.int .u8 b,.int .u8 f] w fun e w' => e = .returned (.tuple #[.int .u8 (vASub a b false).1,.int .u8 (vASub a b false).2]) ∧ Below w.heap.size w w' :=by
 go_enter Tryz.func96,Tryz.ntmps96
 go_wp2_with fail
 go_in
 go_wp2_with fail
 refine (c_alu_Sub _ _ _ _).mono ?_
 rintro e w' ⟨rfl,hb⟩
 go_wp2
 go_ret2
 exact ⟨rfl,hb⟩
theorem do_3 (o a b f : Int) (w : World) (ho : Go.bits .and .i64 o 7 = 3) (c : w.cell? ⟨0,3,none⟩ = some (.func (.func 182) #[] #[])) :
  Calls Tryz.prog 96 #[.int .i64 o,.int .u8 a,.int .u8 b,.int .u8 f] w fun e w' => e = .returned (.tuple #[.int .u8 (vASub a b (Go.bits .and .u8 f 1 != 0)).1,.int .u8 (vASub a b (Go.bits .and .u8 f 1 != 0)).2]) ∧ Below w.heap.size w w' :=by
 go_enter Tryz.func96,Tryz.ntmps96
 go_wp2_with fail
 go_in
 go_wp2_with fail
 refine (c_alu_Sub _ _ _ _).mono ?_
 rintro e w' ⟨rfl,hb⟩
 go_wp2
 go_ret2
 exact ⟨rfl,hb⟩
theorem do_4 (o a b f : Int) (w : World) (ho : Go.bits .and .i64 o 7 = 4) (c : w.cell? ⟨0,4,none⟩ = some (.func (.func 183) #[] #[])) :
  Calls Tryz.prog 96 #[.int .i64 o,.int .u8 a,.int .u8 b,.int .u8 f] w fun e w' => e = .returned (.tuple #[.int .u8 (vAAnd a b).1,.int .u8 (vAAnd a b).2]) ∧ Below w.heap.size w w' :=by
 go_enter Tryz.func96,Tryz.ntmps96
 go_wp2_with fail
 go_in
 go_wp2_with fail
 refine (c_alu_And _ _ _).mono ?_
 rintro e w' ⟨rfl,hb⟩
 go_wp2
 go_ret2
 exact ⟨rfl,hb⟩
theorem do_5 (o a b f : Int) (w : World) (ho : Go.bits .and .i64 o 7 = 5) (c : w.cell? ⟨0,5,none⟩ = some (.func (.func 185) #[] #[])) :
  Calls Tryz.prog 96 #[.int .i64 o,.int .u8 a,.int .u8 b,.int .u8 f] w fun e w' => e = .returned (.tuple #[.int .u8 (vAXor a b).1,.int .u8 (vAXor a b).2]) ∧ Below w.heap.size w w' :=by
 go_enter Tryz.func96,Tryz.ntmps96
 go_wp2_with fail
 go_in
 go_wp2_with fail
 refine (c_alu_Xor _ _ _).mono ?_
 rintro e w' ⟨rfl,hb⟩
 go_wp2
 go_ret2
 exact ⟨rfl,hb⟩
theorem do_6 (o a b f : Int) (w : World) (ho : Go.bits .and .i64 o 7 = 6) (c : w.cell? ⟨0,6,none⟩ = some (.func (.func 187) #[] #[])) :
  Calls Tryz.prog 96 #[.int .i64 o,.int .u8 a,.int .u8 b,.int .u8 f] w fun e w' => e = .returned (.tuple #[.int .u8 (vAOr a b).1,.int .u8 (vAOr a b).2]) ∧ Below w.heap.size w w' :=by
 go_enter Tryz.func96,Tryz.ntmps96
 go_wp2_with fail
 go_in
 go_wp2_with fail
 refine (c_alu_Or _ _ _).mono ?_
 rintro e w' ⟨rfl,hb⟩
 go_wp2
 go_ret2
 exact ⟨rfl,hb⟩
theorem do_7 (o a b f : Int) (w : World) (ho : Go.bits .and .i64 o 7 = 7) (c : w.cell? ⟨0,7,none⟩ = some (.func (.func 189) #[] #[])) :
  Calls Tryz.prog 96 #[.int .i64 o,.int .u8 a,.int .u8 b,.int .u8 f] w fun e w' => e = .returned (.tuple #[.int .u8 ((a,vACp a b)).1,.int .u8 ((a,vACp a b)).2]) ∧ Below w.heap.size w w' :=by
 go_enter Tryz.func96,Tryz.ntmps96
 go_wp2_with fail
 go_in
 go_wp2_with fail
 refine (c_alu_Cp _ _ _).mono ?_
 rintro e w' ⟨rfl,hb⟩
 go_wp2
 go_ret2
 exact ⟨rfl,hb⟩
theorem c_alu_Do (o a b f : Int) (w : World) (hT : Table w) :
  Calls Tryz.prog 96 #[.int .i64 o,.int .u8 a,.int .u8 b,.int .u8 f] w fun e w' => e = .returned (.tuple #[.int .u8 (vDo1 o a b f),.int .u8 (vDo2 o a b f)]) ∧ Below w.heap.size w w' :=by
 have h7 :=B.i64_7 o
 unfold vDo1 vDo2 vDo
 by_cases h0 : o % 8 = 0
 ·rw [if_pos h0];exact do_0 o a b f w (h7.trans h0) (hT.out 0 _ rfl)
 rw [if_neg h0]
 by_cases h1 : o % 8 = 1
 ·rw [if_pos h1];exact do_1 o a b f w (h7.trans h1) (hT.out 1 _ rfl)
 rw [if_neg h1]
 by_cases h2 : o % 8 = 2
 ·rw [if_pos h2];exact do_2 o a b f w (h7.trans h2) (hT.out 2 _ rfl)
 rw [if_neg h2]
 by_cases h3 : o % 8 = 3
 ·rw [if_pos h3];exact do_3 o a b f w (h7.trans h3) (hT.out 3 _ rfl)
 rw [if_neg h3]
 by_cases h4 : o % 8 = 4
 ·rw [if_pos h4];exact do_4 o a b f w (h7.trans h4) (hT.out 4 _ rfl)
 rw [if_neg h4]
 by_cases h5 : o % 8 = 5
 ·rw [if_pos h5];exact do_5 o a b f w (h7.trans h5) (hT.out 5 _ rfl)
 rw [if_neg h5]
 by_cases h6 : o % 8 = 6
 ·rw [if_pos h6];exact do_6 o a b f w (h7.trans h6) (hT.out 6 _ rfl)
 rw [if_neg h6]
 exact do_7 o a b f w (h7.trans (by omega)) (hT.out 7 _ rfl)
open Go Go.RowKit Go.Proofs.YtnelghpendfdmaaGreatDoorW.PrintWords
def zbk (x : Int) : Int :=IntKind.u16.wrap (x + 1)
def dec16 (x : Int) : Int :=IntKind.u16.wrap (x - 1)
def px (op : Int) : Int :=(zbb op).1
def py (op : Int) : Int :=(zbb op).2.1
def pz (op : Int) : Int :=(zbb op).2.2.1
def pp (op : Int) : Int :=(zbb op).2.2.2.1
def pq (op : Int) : Int :=(zbb op).2.2.2.2
def Rw.idle (ρ : Rw) (t : Int) : Tr Unit :=(ρ.req 6 0 0 t).bind fun _ ρ => .ret () ρ
def Rw.read (ρ : Rw) (a : Int) : Tr Int :=(ρ.req 2 a 0 3).bind fun v ρ => .ret v ρ
def Rw.write (ρ : Rw) (a v : Int) : Tr Unit :=(ρ.req 3 a v 3).bind fun _ ρ => .ret () ρ
def Rw.inp (ρ : Rw) (a : Int) : Tr Int :=(ρ.req 4 a 0 4).bind fun v ρ => .ret v ρ
def Rw.out (ρ : Rw) (a v : Int) : Tr Unit :=(ρ.req 5 a v 4).bind fun _ ρ => .ret () ρ
def Rw.fetched (ρ : Rw) : Rw :={ ρ with pc :=zbk ρ.pc,r :=ρ.toRg.refresh.r }
def Rw.fetch (ρ : Rw) : Tr Int :=(ρ.req 1 ρ.pc 0 4).bind fun v ρ => .ret v ρ.fetched
def Rw.next (ρ : Rw) : Tr Int :=(ρ.read ρ.pc).bind fun v ρ => .ret v { ρ with pc :=zbk ρ.pc }
def Rw.halted (ρ : Rw) : Tr Unit :=(({ ρ with late :=false } : Rw).req 1 ρ.pc 0 4).bind fun _ ρ => .ret () { ρ with r :=ρ.toRg.refresh.r }
def Rw.word (ρ : Rw) : Tr Int :=ρ.next.bind fun l ρ => ρ.next.bind fun h ρ => .ret (zbg h l) ρ
def Rw.push (ρ : Rw) (v : Int) : Tr Unit :=
 (({ ρ with sp :=dec16 ρ.sp } : Rw).write (dec16 ρ.sp) (v / 256 % 256)).bind fun _ ρ => (({ ρ with sp :=dec16 ρ.sp } : Rw).write (dec16 ρ.sp) (v % 256)).bind fun _ ρ => .ret () ρ
def Rw.pop (ρ : Rw) : Tr Int :=
 (ρ.read ρ.sp).bind fun l ρ => (({ ρ with sp :=zbk ρ.sp } : Rw).read (zbk ρ.sp)).bind fun h ρ => .ret (zbg h l) { ρ with sp :=zbk ρ.sp }
def Rw.pair (ρ : Rw) (c : Int) (st : Bool) : Int :=ρ.toRg.pair (rmod ρ.x 3) (rmod c 4) st
def Rw.putPair (ρ : Rw) (c : Int) (st : Bool) (v : Int) : Tr Unit :=.ret () (ρ.regs (ρ.toRg.putPair (rmod ρ.x 3) (rmod c 4) st v))
def Rw.byteIndex (ρ : Rw) : Int :=if ρ.disp = true then 0 else ρ.x
def Rw.put8 (ρ : Rw) (c v : Int) : Tr Unit :=.ret () (ρ.regs (ρ.toRg.put1 (rmod ρ.byteIndex 3) (rmod c 8) v))
def Rw.get8 (ρ : Rw) (c : Int) : Int :=ρ.toRg.get (rmod ρ.byteIndex 3) (rmod c 8)
def Rw.address (ρ : Rw) : Tr Int :=
 if ρ.x = 0 then .ret (ρ.pair 2 false) ρ else ρ.next.bind fun d ρ => (ρ.idle 5).bind fun _ ρ => .ret (vWPlus (ρ.pair 2 false) d) { ρ with wz :=vWPlus (ρ.pair 2 false) d }
def Rw.get (ρ : Rw) (c : Int) : Tr Int :=
 if c = 6 then ρ.address.bind fun a ρ => (({ ρ with adr :=a } : Rw).read a).bind fun v ρ => .ret v ρ else .ret (ρ.get8 c) ρ
def Rw.jump (ρ : Rw) (e : Int) : Tr Unit :=(ρ.idle 5).bind fun _ ρ => .ret () { ρ with pc :=vWPlus ρ.pc e,wz :=vWPlus ρ.pc e }
def Rw.crossed (ρ : Rw) (v : Int) : Int :=zbg ρ.a ((v + 1) % 256)
def Rw.cond (ρ : Rw) (y : Int) : Bool :=rcond ρ.f (rmod y 8)
def Rw.store (ρ : Rw) (v : Int) : Tr Unit :=
 ρ.word.bind fun nn ρ => (ρ.write nn (v % 256)).bind fun _ ρ => (ρ.write (zbk nn) (v / 256 % 256)).bind fun _ ρ => .ret () { ρ with wz :=zbk nn }
def Rw.load (ρ : Rw) : Tr Int :=
 ρ.word.bind fun nn ρ => (ρ.read nn).bind fun l ρ => (ρ.read (zbk nn)).bind fun h ρ => .ret (zbg h l) { ρ with wz :=zbk nn }
def Rw.call (ρ : Rw) (tg : Int) : Tr Unit :=(ρ.idle 1).bind fun _ ρ => (ρ.push ρ.pc).bind fun _ ρ => .ret () { ρ with pc :=tg }
def Rw.rets (ρ : Rw) : Tr Unit :=ρ.pop.bind fun v ρ => .ret () { ρ with pc :=v,wz :=v }
def Rw.bitsOp (ρ : Rw) (op v frm : Int) : Tr (Int × Bool) :=
 if px op = 0 then .ret ((vSShift1 (py op) v ρ.f),true) { ρ with f :=(vSShift2 (py op) v ρ.f) }
 else if px op = 1 then .ret (v,false) { ρ with f :=vSBit (py op) v frm ρ.f }
 else if px op = 2 then .ret (vSRes (py op) v,true) ρ
 else .ret (vSSet (py op) v,true) ρ
def m7 (op : Int) : Int :=Go.bits .and .i64 op 7
def Rw.setBits (ρ : Rw) (op : Int) : Tr Unit :=
 if m7 op = 6 then
  (ρ.read (ρ.toRg.pair (rmod 0 3) (rmod 2 4) false)).bind fun v ρ => (ρ.idle 1).bind fun _ ρ => (ρ.bitsOp op v (ρ.wz / 256 % 256)).bind fun p ρ1 =>
   if p.2 = true then (ρ1.write (ρ.toRg.pair (rmod 0 3) (rmod 2 4) false) p.1).bind fun _ ρ => .ret () ρ else .ret () ρ1
 else
  (ρ.bitsOp op (ρ.toRg.get (rmod 0 3) (rmod (m7 op) 8)) (ρ.toRg.get (rmod 0 3) (rmod (m7 op) 8))).bind fun p ρ =>
   if p.2 = true then .ret () (ρ.regs (ρ.toRg.put1 (rmod 0 3) (rmod (m7 op) 8) p.1)) else .ret () ρ
def Rw.bothAt (ρ : Rw) (d : Int) : Int :=vWPlus (ρ.toRg.pair (rmod ρ.x 3) (rmod 2 4) false) d
def Rw.setBoth (ρ : Rw) : Tr Unit :=
 ρ.next.bind fun d ρ => ρ.next.bind fun b ρ => (ρ.idle 2).bind fun _ ρ => (({ ρ with wz :=ρ.bothAt d } : Rw).read (ρ.bothAt d)).bind fun v ρ2 => (ρ2.idle 1).bind fun _ ρ2 =>
  (ρ2.bitsOp (wrap64 b) v (ρ.bothAt d / 256 % 256)).bind fun p ρ3 =>
   if p.2 = true then (ρ3.write (ρ.bothAt d) p.1).bind fun _ ρ => .ret () (ρ.regs (ρ.toRg.put1 (rmod 0 3) (rmod (m7 (wrap64 b)) 8) p.1)) else .ret () ρ3
def Rw.moves (ρ : Rw) (op p : Int) : Tr Unit :=
 if op = 2 ∨ op = 18 then (ρ.write (ρ.pair p false) ρ.a).bind fun _ ρ1 => .ret () { ρ1 with wz :=ρ1.crossed (ρ.pair p false) }
 else if op = 10 ∨ op = 26 then (ρ.read (ρ.pair p false)).bind fun v ρ1 => .ret () { ρ1 with a :=v,wz :=zbk (ρ.pair p false) }
 else if op = 34 then (ρ.store (ρ.pair 2 false)).bind fun _ ρ => .ret () ρ
 else if op = 42 then ρ.load.bind fun v ρ => (ρ.putPair 2 false v).bind fun _ ρ => .ret () ρ
 else if op = 50 then ρ.word.bind fun nn ρ => (ρ.write nn ρ.a).bind fun _ ρ => .ret () { ρ with wz :=ρ.crossed nn }
 else ρ.word.bind fun nn ρ => (ρ.read nn).bind fun v ρ => .ret () { ρ with a :=v,wz :=zbk nn }
def Rw.odd (ρ : Rw) (op : Int) : Tr Unit :=
 if op = 195 then ρ.word.bind fun v ρ => .ret () { ρ with wz :=v,pc :=v }
 else if op = 211 then ρ.next.bind fun n ρ => (ρ.out (zbg ρ.a n) ρ.a).bind fun _ ρ => .ret () { ρ with wz :=zbg ρ.a ((n + 1) % 256) }
 else if op = 219 then ρ.next.bind fun n ρ1 => (ρ1.inp (zbg ρ.a n)).bind fun v ρ2 => .ret () { ρ2 with a :=v,wz :=zbk (zbg ρ.a n) }
 else if op = 227 then
  (ρ.read ρ.sp).bind fun l ρ => (ρ.read (zbk ρ.sp)).bind fun h ρ => (ρ.idle 1).bind fun _ ρ => (ρ.write (zbk ρ.sp) (ρ.pair 2 false / 256 % 256)).bind fun _ ρ1 => (ρ1.write ρ1.sp (ρ.pair 2 false % 256)).bind fun _ ρ =>
  (ρ.idle 2).bind fun _ ρ => (({ ρ with wz :=zbg h l } : Rw).putPair 2 false (zbg h l)).bind fun _ ρ => .ret () ρ
 else if op = 235 then .ret () (ρ.regs (ρ.toRg.swap (rmod 2 3)))
 else if op = 243 then .ret () { ρ with ff1 :=false,ff2 :=false }
 else if op = 251 then .ret () { ρ with ff1 :=true,ff2 :=true,late :=true }
 else .ret () ρ
def ownFlags (v f : Int) (b : Bool) : Int :=Go.bits .or .u8 (Go.bits .or .u8 (aOwn v) (vIf1 b 4)) (Go.bits .and .u8 f 1)
def Rw.accumulator (ρ : Rw) (y hl : Int) : Tr Unit :=
 if y = 0 ∨ y = 1 ∨ y = 2 ∨ y = 3 then (ρ.idle 1).bind fun _ ρ =>
  if y = 0 then .ret () { ρ with i :=ρ.a } else if y = 1 then .ret () { ρ with r :=ρ.a }
  else if y = 2 then .ret () { ρ with a :=ρ.i,f :=ownFlags ρ.i ρ.f ρ.ff2 } else .ret () { ρ with a :=ρ.r,f :=ownFlags ρ.r ρ.f ρ.ff2 }
 else if y = 4 ∨ y = 5 then (ρ.read hl).bind fun v ρ => (ρ.idle 4).bind fun _ ρ =>
  if y = 4 then (ρ.write hl (vSRrd2 ρ.a v ρ.f)).bind fun _ ρ1 => .ret () { ρ1 with a :=(vSRrd1 ρ.a v ρ.f),f :=(vSRrd3 ρ.a v ρ.f),wz :=zbk hl }
  else (ρ.write hl (vSRld2 ρ.a v ρ.f)).bind fun _ ρ1 => .ret () { ρ1 with a :=(vSRld1 ρ.a v ρ.f),f :=(vSRld3 ρ.a v ρ.f),wz :=zbk hl }
 else .ret () ρ
end Go.Proofs.YtnelghpendfdmaaGreatDoor.KRow
