/-
 PROVED: alu.Do's contract over the table of operators.
-/
import Derived.Test.YtnelghpendfdmaaGreatDoorKTot
namespace Go.Proofs.YtnelghpendfdmaaGreatDoor.KRow
set_option maxRecDepth 100000
set_option maxHeartbeats 16000000
open Go Go.RowKit Go.Proofs.YtnelghpendfdmaaGreatDoorW.PrintWords Go.Proofs.YtnelghpendfdmaaGreatDoorW.PrintLast Go.Proofs.YtnelghpendfdmaaGreatDoorW.PrintMore
open Go.Proofs.YtnelghpendfdmaaGreatDoor.HFun
set_option linter.unusedVariables false
set_option linter.unusedSimpArgs false
def vDo (o a b f : Int) : Int × Int :=
 if o % 8 = 0 then vAAdd a b false else if o % 8 = 1 then vAAdd a b (Go.bits .and .u8 f 1 != 0) else if o % 8 = 2 then vASub a b false else if o % 8 = 3 then vASub a b (Go.bits .and .u8 f 1 != 0)
 else if o % 8 = 4 then vAAnd a b else if o % 8 = 5 then vAXor a b else if o % 8 = 6 then vAOr a b else (a,vACp a b)
def vDo1 (o a b f : Int) : Int :=(vDo o a b f).1
def vDo2 (o a b f : Int) : Int :=(vDo o a b f).2
theorem do_0 (o a b f : Int) (w : World) (ho : Go.bits .and .i64 o 7 = 0) (c : w.cell? ⟨0,0,none⟩ = some (.func (.func 179) #[] #[])) :
  Calls Tryz.prog 96 #[.int .i64 o,.int .u8 a,.int .u8 b,.int .u8 f] w fun e w' => e = .returned (.tuple #[.int .u8 (vAAdd a b false).1,.int .u8 (vAAdd a b false).2]) ∧ Below w.heap.size w w' :=by
 go_enter Tryz.func96,Tryz.ntmps96
 go_wp2_with fail
 go_in
 go_wp2_with fail
 refine (c_alu_Add _ _ _ _).mono ?_
 rintro e w' ⟨rfl,hb⟩
 go_wp2
 go_ret2
 exact ⟨rfl,hb⟩
theorem do_1 (o a b f : Int) (w : World) (ho : Go.bits .and .i64 o 7 = 1) (c : w.cell? ⟨0,1,none⟩ = some (.func (.func 180) #[] #[])) :
  Calls Tryz.prog 96 #[.int .i64 o,.int .u8 a,.int .u8 b,.int .u8 f] w fun e w' => e = .returned (.tuple #[.int .u8 (vAAdd a b (Go.bits .and .u8 f 1 != 0)).1,.int .u8 (vAAdd a b (Go.bits .and .u8 f 1 != 0)).2]) ∧ Below w.heap.size w w' :=by
 go_enter Tryz.func96,Tryz.ntmps96
 go_wp2_with fail
 go_in
 go_wp2_with fail
 refine (c_alu_Add _ _ _ _).mono ?_
 rintro e w' ⟨rfl,hb⟩
 go_wp2
 go_ret2
 exact ⟨rfl,hb⟩
theorem do_2 (o a b f : Int) (w : World) (ho : Go.bits .and .i64 o 7 = 2) (c : w.cell? ⟨0,2,none⟩ = some (.func (.func 181) #[] #[])) :
  Calls Tryz.prog 96 #[.int .i64 o,.int .u8 a,.int .u8 b,.int .u8 f] w fun e w' => e = .returned (.tuple #[.int .u8 (vASub a b false).1,.int .u8 (vASub a b false).2]) ∧ Below w.heap.size w w' :=by
 go_enter Tryz.func96,Tryz.ntmps96
 go_wp2_with fail
 go_in
 go_wp2_with fail
 refine (c_alu_Sub _ _ _ _).mono ?_
 rintro e w' ⟨rfl,hb⟩
 go_wp2
 go_ret2
 exact ⟨rfl,hb⟩
theorem do_3 (o a b f : Int) (w : World) (ho : Go.bits .and .i64 o 7 = 3) (c : w.cell? ⟨0,3,none⟩ = some (.func (.func 182) #[] #[])) :
  Calls Tryz.prog 96 #[.int .i64 o,.int .u8 a,.int .u8 b,.int .u8 f] w fun e w' => e = .returned (.tuple #[.int .u8 (vASub a b (Go.bits .and .u8 f 1 != 0)).1,.int .u8 (vASub a b (Go.bits .and .u8 f 1 != 0)).2]) ∧ Below w.heap.size w w' :=by
 go_enter Tryz.func96,Tryz.ntmps96
 go_wp2_with fail
 go_in
 go_wp2_with fail
 refine (c_alu_Sub _ _ _ _).mono ?_
 rintro e w' ⟨rfl,hb⟩
 go_wp2
 go_ret2
 exact ⟨rfl,hb⟩
theorem do_4 (o a b f : Int) (w : World) (ho : Go.bits .and .i64 o 7 = 4) (c : w.cell? ⟨0,4,none⟩ = some (.func (.func 183) #[] #[])) :
  Calls Tryz.prog 96 #[.int .i64 o,.int .u8 a,.int .u8 b,.int .u8 f] w fun e w' => e = .returned (.tuple #[.int .u8 (vAAnd a b).1,.int .u8 (vAAnd a b).2]) ∧ Below w.heap.size w w' :=by
 go_enter Tryz.func96,Tryz.ntmps96
 go_wp2_with fail
 go_in
 go_wp2_with fail
 refine (c_alu_And _ _ _).mono ?_
 rintro e w' ⟨rfl,hb⟩
 go_wp2
 go_ret2
 exact ⟨rfl,hb⟩
theorem do_5 (o a b f : Int) (w : World) (ho : Go.bits .and .i64 o 7 = 5) (c : w.cell? ⟨0,5,none⟩ = some (.func (.func 185) #[] #[])) :
  Calls Tryz.prog 96 #[.int .i64 o,.int .u8 a,.int .u8 b,.int .u8 f] w fun e w' => e = .returned (.tuple #[.int .u8 (vAXor a b).1,.int .u8 (vAXor a b).2]) ∧ Below w.heap.size w w' :=by
 go_enter Tryz.func96,Tryz.ntmps96
 go_wp2_with fail
 go_in
 go_wp2_with fail
 refine (c_alu_Xor _ _ _).mono ?_
 rintro e w' ⟨rfl,hb⟩
 go_wp2
 go_ret2
 exact ⟨rfl,hb⟩
theorem do_6 (o a b f : Int) (w : World) (ho : Go.bits .and .i64 o 7 = 6) (c : w.cell? ⟨0,6,none⟩ = some (.func (.func 187) #[] #[])) :
  Calls Tryz.prog 96 #[.int .i64 o,.int .u8 a,.int .u8 b,.int .u8 f] w fun e w' => e = .returned (.tuple #[.int .u8 (vAOr a b).1,.int .u8 (vAOr a b).2]) ∧ Below w.heap.size w w' :=by
 go_enter Tryz.func96,Tryz.ntmps96
 go_wp2_with fail
 go_in
 go_wp2_with fail
 refine (c_alu_Or _ _ _).mono ?_
 rintro e w' ⟨rfl,hb⟩
 go_wp2
 go_ret2
 exact ⟨rfl,hb⟩
theorem do_7 (o a b f : Int) (w : World) (ho : Go.bits .and .i64 o 7 = 7) (c : w.cell? ⟨0,7,none⟩ = some (.func (.func 189) #[] #[])) :
  Calls Tryz.prog 96 #[.int .i64 o,.int .u8 a,.int .u8 b,.int .u8 f] w fun e w' => e = .returned (.tuple #[.int .u8 ((a,vACp a b)).1,.int .u8 ((a,vACp a b)).2]) ∧ Below w.heap.size w w' :=by
 go_enter Tryz.func96,Tryz.ntmps96
 go_wp2_with fail
 go_in
 go_wp2_with fail
 refine (c_alu_Cp _ _ _).mono ?_
 rintro e w' ⟨rfl,hb⟩
 go_wp2
 go_ret2
 exact ⟨rfl,hb⟩
theorem c_alu_Do (o a b f : Int) (w : World) (hT : Table w) :
  Calls Tryz.prog 96 #[.int .i64 o,.int .u8 a,.int .u8 b,.int .u8 f] w fun e w' => e = .returned (.tuple #[.int .u8 (vDo1 o a b f),.int .u8 (vDo2 o a b f)]) ∧ Below w.heap.size w w' :=by
 have h7 :=B.i64_7 o
 unfold vDo1 vDo2 vDo
 by_cases h0 : o % 8 = 0
 ·rw [if_pos h0];exact do_0 o a b f w (h7.trans h0) (hT.out 0 _ rfl)
 rw [if_neg h0]
 by_cases h1 : o % 8 = 1
 ·rw [if_pos h1];exact do_1 o a b f w (h7.trans h1) (hT.out 1 _ rfl)
 rw [if_neg h1]
 by_cases h2 : o % 8 = 2
 ·rw [if_pos h2];exact do_2 o a b f w (h7.trans h2) (hT.out 2 _ rfl)
 rw [if_neg h2]
 by_cases h3 : o % 8 = 3
 ·rw [if_pos h3];exact do_3 o a b f w (h7.trans h3) (hT.out 3 _ rfl)
 rw [if_neg h3]
 by_cases h4 : o % 8 = 4
 ·rw [if_pos h4];exact do_4 o a b f w (h7.trans h4) (hT.out 4 _ rfl)
 rw [if_neg h4]
 by_cases h5 : o % 8 = 5
 ·rw [if_pos h5];exact do_5 o a b f w (h7.trans h5) (hT.out 5 _ rfl)
 rw [if_neg h5]
 by_cases h6 : o % 8 = 6
 ·rw [if_pos h6];exact do_6 o a b f w (h7.trans h6) (hT.out 6 _ rfl)
 rw [if_neg h6]
 exact do_7 o a b f w (h7.trans (by omega)) (hT.out 7 _ rfl)
end Go.Proofs.YtnelghpendfdmaaGreatDoor.KRow
