/-
  The row's methods setMore, instruction, interrupt as functions of what is in the row: trees of requests (definitions alone).
-/
import Derived.Test.YtnelghpendfdmaaGreatDoorKMod2
namespace Go.Proofs.YtnelghpendfdmaaGreatDoor.KRow
open Go Go.RowKit Go.Proofs.YtnelghpendfdmaaGreatDoorW.PrintWords
open Go.Proofs.YtnelghpendfdmaaGreatDoor.HFun
set_option linter.unusedVariables false
def imOf (y : Int) : Int := if y % 4 = 2 then 1 else if y % 4 = 3 then 2 else 0
noncomputable def Rw.more1 (ρ : Rw) (y z p q : Int) : Tr Unit :=
  if z = 0 then (ρ.inp ρ.bc0).bind fun v ρ1 => .ret () { ρ1.regs (ρ1.toRg.put1 (rmod 0 3) (rmod y 8) v) with f := ownFlags v (ρ1.toRg.put1 (rmod 0 3) (rmod y 8) v).f (aParity v), wz := inc16 ρ.bc0 }
  else if z = 1 then (ρ.out ρ.bc0 (ρ.toRg.get (rmod 0 3) (rmod y 8))).bind fun _ ρ1 => .ret () { ρ1 with wz := inc16 ρ.bc0 }
  else if z = 2 then (ρ.idle 7).bind fun _ ρ =>
    if q = 0 then .ret () { ρ with wz := inc16 ρ.hl0, h := (vWSbc1 ρ.hl0 (({ ρ with wz := inc16 ρ.hl0 } : Rw).pair p false) ρ.f) / 256 % 256, l := (vWSbc1 ρ.hl0 (({ ρ with wz := inc16 ρ.hl0 } : Rw).pair p false) ρ.f) % 256, f := (vWSbc2 ρ.hl0 (({ ρ with wz := inc16 ρ.hl0 } : Rw).pair p false) ρ.f) }
    else .ret () { ρ with wz := inc16 ρ.hl0, h := (vWAdc1 ρ.hl0 (({ ρ with wz := inc16 ρ.hl0 } : Rw).pair p false) ρ.f) / 256 % 256, l := (vWAdc1 ρ.hl0 (({ ρ with wz := inc16 ρ.hl0 } : Rw).pair p false) ρ.f) % 256, f := (vWAdc2 ρ.hl0 (({ ρ with wz := inc16 ρ.hl0 } : Rw).pair p false) ρ.f) }
  else if z = 3 then (if q = 0 then (ρ.store (ρ.pair p false)).bind fun _ ρ => .ret () ρ else ρ.load.bind fun v ρ => (ρ.putPair p false v).bind fun _ ρ => .ret () ρ)
  else if z = 4 then .ret () { ρ with a := (vANeg1 ρ.a), f := (vANeg2 ρ.a) }
  else if z = 5 then (({ ρ with ff1 := ρ.ff2 } : Rw).rets).bind fun _ ρ => .ret () ρ
  else if z = 6 then .ret () { ρ with im := imOf y }
  else (ρ.accumulator y ρ.hl0).bind fun _ ρ => .ret () ρ
noncomputable def Rw.setMore (ρ : Rw) (op : Int) : Tr Unit :=
  if px op = 2 ∧ 4 ≤ py op ∧ pz op ≤ 3 then (ρ.block (py op) (pz op)).bind fun _ ρ => .ret () ρ
  else if px op = 1 then ρ.more1 (py op) (pz op) (pp op) (pq op) else .ret () ρ
def Rw.second (ρ : Rw) : Tr Unit :=
  ρ.fetch.bind fun op ρ => if op = 203 then ρ.setBoth.bind fun _ ρ => .ret () ρ else if op = 221 ∨ op = 237 ∨ op = 253 then .ret () ρ else (ρ.main (wrap64 op)).bind fun _ ρ => .ret () ρ
noncomputable def Rw.instr (ρ : Rw) (one : Bool) : Tr Unit :=
  if ρ.halt = true then ρ.halted.bind fun _ ρ => .ret () ρ
  else (({ ρ with late := false } : Rw).fetch).bind fun op ρ =>
    if op = 221 ∨ op = 253 then
      if one = true ∧ (ρ.peek = 221 ∨ ρ.peek = 237 ∨ ρ.peek = 253) then .ret () { ρ with late := true }
      else if op = 253 then ({ ρ with x := 2 } : Rw).second else ({ ρ with x := 1 } : Rw).second
    else if op = 203 then ρ.fetch.bind fun b ρ => (ρ.setBits (wrap64 b)).bind fun _ ρ => .ret () ρ
    else if op = 237 then ρ.fetch.bind fun b ρ => (ρ.setMore (wrap64 b)).bind fun _ ρ => .ret () ρ
    else (ρ.main (wrap64 op)).bind fun _ ρ => .ret () ρ
end Go.Proofs.YtnelghpendfdmaaGreatDoor.KRow
