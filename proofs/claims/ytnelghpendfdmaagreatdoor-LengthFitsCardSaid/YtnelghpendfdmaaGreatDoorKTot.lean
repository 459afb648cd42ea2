/-
 PROVED: the functions of the packages wide, alu, shift and decode that the row calls answer always (a byte whose parity is asked is one); each one's contract.
-/
import Derived.Test.YtnelghpendfdmaaGreatDoorKRow
import Derived.Test.YtnelghpendfdmaaGreatDoorHFunx6
namespace Go.Proofs.YtnelghpendfdmaaGreatDoor.KRow
open Go Go.RowKit Go.Proofs.YtnelghpendfdmaaGreatDoorW.PrintWords Go.Proofs.YtnelghpendfdmaaGreatDoorW.PrintLast Go.Proofs.YtnelghpendfdmaaGreatDoorW.PrintMore
open Go.Proofs.YtnelghpendfdmaaGreatDoor.HFun
set_option linter.unusedVariables false
set_option linter.unusedSimpArgs false
theorem zan {w W : World} (d : Drawn0 w W) : Below w.heap.size w W :=by
 obtain ⟨n,rfl⟩ :=d.out
 exact pw_below_drewN (Below.refl _ _) n
theorem bits8 (op : BinOp) (x y : Int) : 0 ≤ Go.bits op .u8 x y ∧ Go.bits op .u8 x y < 256 :=by
 have :=bounds_u8 (wf_bits op .u8 x y)
 omega
theorem u64_nonneg (x : Int) : 0 ≤ IntKind.u64.wrap x :=by
 rw [IntKind.wrap_u64]
 exact Int.emod_nonneg _ (by decide)
theorem alu_if1_f (b : Bool) (x : Int) : ycy.f b x = some (if b = true then x else 0) :=by unfold ycy.f;split <;> rfl
theorem zbx (b : Bool) (x : Int) : ycs.f b x = some (if b = true then x else 0) :=by unfold ycs.f;split <;> rfl
theorem shift_if1_f (b : Bool) (x : Int) : ycx.f b x = some (if b = true then x else 0) :=by unfold ycx.f;split <;> rfl
theorem step_if1_f (b : Bool) (x : Int) : step_if1.f b x = some (if b = true then x else 0) :=by unfold step_if1.f;split <;> rfl
def aOwn (a : Int) : Int :=if a = 0 then Go.bits .or .u8 (Go.bits .and .u8 a 168) 64 else Go.bits .and .u8 a 168
theorem alu_Own_f (a : Int) : ydi.f a = some (aOwn a) :=by unfold ydi.f aOwn;split <;> rfl
def aParity (a : Int) : Bool :=(ydg.f a).getD false
theorem alu_Parity_f (a : Int) (h : 0 ≤ a ∧ a < 256) : ydg.f a = some (aParity a) :=by
 unfold aParity ydg.f ydm.f
 rw [if_pos h.1,if_pos h.2]
 rfl
theorem zbz {α : Type} {o : Option α} {d : α} (h : ∃ r,o = some r) : o = some (o.getD d) :=by
 obtain ⟨r,rfl⟩ :=h
 rfl
theorem wide_all_f (a : Int) : ∃ r,yds.f a = some r :=by unfold yds.f;simp only [zbx,Option.bind_some];exact ⟨_,rfl⟩
theorem wide_odd_f (a : Int) : ∃ r,ydk.f a = some r :=by unfold ydk.f;simp only [zbx,Option.bind_some];exact ⟨_,rfl⟩
theorem alu_logic_f (a b : Int) (h : 0 ≤ a ∧ a < 256) : ∃ r,ydl.f a b = some r :=by unfold ydl.f;simp only [alu_Own_f,alu_Parity_f a h,alu_if1_f,Option.bind_some];exact ⟨_,rfl⟩
theorem fin_bits (op : BinOp) (x y z : Int) : ∃ r : Int × Int,some (Go.bits op .u8 x y,z) = some r ∧ 0 ≤ r.1 ∧ r.1 < 256 :=⟨(Go.bits op .u8 x y,z),rfl,(bits8 op x y).1,(bits8 op x y).2⟩
theorem moved_j2 (k : Nat) (a b c d e f g : Int) (h : Bool) : ∃ r,yco.j2 (k + 1) a b c d e f g h = some r ∧ 0 ≤ r.1 ∧ r.1 < 256 :=by
 simp only [yco.j2]
 repeat' (first | exact fin_bits _ _ _ _ | split)
theorem moved_j1 (k : Nat) (a b c d e f g : Int) (h : Bool) : ∃ r,yco.j1 (k + 2) a b c d e f g h = some r ∧ 0 ≤ r.1 ∧ r.1 < 256 :=by
 simp only [yco.j1]
 repeat' (first | exact moved_j2 _ _ _ _ _ _ _ _ _ | exact fin_bits _ _ _ _ | split)
theorem moved_j0 (k : Nat) (a b c d e : Int) : ∃ r,yco.j0 (k + 3) a b c d e = some r ∧ 0 ≤ r.1 ∧ r.1 < 256 :=by
 simp only [yco.j0]
 split <;> exact moved_j1 _ _ _ _ _ _ _ _ _
theorem shift_moved_f (op a f : Int) : ∃ r,yco.f 8 op a f = some r ∧ 0 ≤ r.1 ∧ r.1 < 256 :=by
 unfold yco.f
 split <;> exact moved_j0 _ _ _ _ _ _
theorem shift_whole_f (a : Int) (h : 0 ≤ a ∧ a < 256) : ∃ r,yde.f a = some r :=by unfold yde.f;simp only [alu_Own_f,alu_Parity_f a h,shift_if1_f,Option.bind_some];exact ⟨_,rfl⟩
theorem wide_Add_f (a b f : Int) : ∃ r,wide_Add.f a b f = some r :=by
 unfold wide_Add.f
 simp only [zbx,Option.bind_some]
 exact ⟨_,rfl⟩
theorem wide_Adc_f (a b f : Int) : ∃ r,wide_Adc.f a b f = some r :=by
 unfold wide_Adc.f
 obtain ⟨r,h⟩ :=wide_all_f (IntKind.u16.wrap (wrap64 (wrap64 (wrap64 a + wrap64 b) + wrap64 (Go.bits .and .u8 f 1))))
 simp only [h,zbx,Option.bind_some]
 repeat' (first | exact ⟨_,rfl⟩ | split)
theorem wide_Sbc_f (a b f : Int) : ∃ r,wide_Sbc.f a b f = some r :=by
 unfold wide_Sbc.f
 obtain ⟨r,h⟩ :=wide_all_f (IntKind.u16.wrap (wrap64 (wrap64 (wrap64 a - wrap64 b) - wrap64 (Go.bits .and .u8 f 1))))
 simp only [h,zbx,Option.bind_some]
 repeat' (first | exact ⟨_,rfl⟩ | split)
theorem wide_Move_f (a v l f : Int) : ∃ r,wide_Move.f a v l f = some r :=by
 unfold wide_Move.f
 obtain ⟨r,h⟩ :=wide_odd_f ((a + v) % 256)
 simp only [h,zbx,Option.bind_some]
 repeat' (exact ⟨_,rfl⟩)
theorem alu_Add_f (a b : Int) (c : Bool) : ∃ r,alu_Add.f a b c = some r :=by
 unfold alu_Add.f
 simp only [alu_if1_f,alu_Own_f,Option.bind_some]
 repeat' (first | exact ⟨_,rfl⟩ | split)
theorem alu_Sub_f (a b : Int) (c : Bool) : ∃ r,ydo.f a b c = some r :=by
 unfold ydo.f
 simp only [alu_if1_f,alu_Own_f,Option.bind_some]
 repeat' (first | exact ⟨_,rfl⟩ | split)
theorem wide_Find_f (a v l f : Int) : ∃ r,wide_Find.f a v l f = some r :=by
 unfold wide_Find.f
 obtain ⟨s,hs⟩ :=alu_Sub_f a v false
 simp only [hs,Option.bind_some]
 obtain ⟨r1,h1⟩ :=wide_odd_f s.1
 obtain ⟨r2,h2⟩ :=wide_odd_f ((s.1 - 1) % 256)
 simp only [h1,h2,zbx,Option.bind_some]
 split <;> exact ⟨_,rfl⟩
theorem wide_Port_f (v b t : Int) : ∃ r,wide_Port.f v b t = some r :=by
 unfold wide_Port.f
 simp only [alu_Own_f,zbx,Option.bind_some,alu_Parity_f _ (bits8 _ _ _)]
 exact ⟨_,rfl⟩
theorem alu_Neg_f (a : Int) : ∃ r,alu_Neg.f a = some r :=by
 unfold alu_Neg.f
 obtain ⟨s,hs⟩ :=alu_Sub_f 0 a false
 simp only [hs,Option.bind_some]
 exact ⟨_,rfl⟩
theorem alu_Inc_f (a f : Int) : ∃ r,alu_Inc.f a f = some r :=by
 unfold alu_Inc.f
 obtain ⟨s,hs⟩ :=alu_Add_f a 1 false
 simp only [hs,Option.bind_some]
 exact ⟨_,rfl⟩
theorem alu_Dec_f (a f : Int) : ∃ r,alu_Dec.f a f = some r :=by
 unfold alu_Dec.f
 obtain ⟨s,hs⟩ :=alu_Sub_f a 1 false
 simp only [hs,Option.bind_some]
 exact ⟨_,rfl⟩
theorem alu_Cp_f (a b : Int) : ∃ r,alu_Cp.f a b = some r :=by
 unfold alu_Cp.f
 obtain ⟨s,hs⟩ :=alu_Sub_f a b false
 simp only [hs,Option.bind_some]
 exact ⟨_,rfl⟩
theorem alu_And_f (a b : Int) : ∃ r,alu_And.f a b = some r :=by
 unfold alu_And.f
 obtain ⟨s,hs⟩ :=alu_logic_f (Go.bits .and .u8 a b) 16 (bits8 _ _ _)
 simp only [hs,Option.bind_some]
 exact ⟨_,rfl⟩
theorem alu_Or_f (a b : Int) : ∃ r,alu_Or.f a b = some r :=by
 unfold alu_Or.f
 obtain ⟨s,hs⟩ :=alu_logic_f (Go.bits .or .u8 a b) 0 (bits8 _ _ _)
 simp only [hs,Option.bind_some]
 exact ⟨_,rfl⟩
theorem alu_Xor_f (a b : Int) : ∃ r,alu_Xor.f a b = some r :=by
 unfold alu_Xor.f
 obtain ⟨s,hs⟩ :=alu_logic_f (Go.bits .xor .u8 a b) 0 (bits8 _ _ _)
 simp only [hs,Option.bind_some]
 exact ⟨_,rfl⟩
theorem shift_Shift_f (op a f : Int) : ∃ r,ydj.f 8 op a f = some r :=by
 unfold ydj.f
 obtain ⟨s,hs,h0⟩ :=shift_moved_f op a f
 obtain ⟨t,ht⟩ :=shift_whole_f s.1 h0
 simp only [hs,ht,Option.bind_some]
 exact ⟨_,rfl⟩
theorem shift_Turn_f (op a f : Int) : ∃ r,ydp.f 8 op a f = some r :=by
 unfold ydp.f
 obtain ⟨s,hs,h0⟩ :=shift_moved_f (Go.bits .and .i64 op 3) a f
 simp only [hs,Option.bind_some]
 exact ⟨_,rfl⟩
theorem shift_Bit_f (n a x f : Int) : ∃ r,shift_Bit.f n a x f = some r :=by
 unfold shift_Bit.f
 rw [if_pos (u64_nonneg _)]
 simp only [shift_if1_f,Option.bind_some]
 split <;> exact ⟨_,rfl⟩
theorem shift_Res_f (n a : Int) : ∃ r,shift_Res.f n a = some r :=by
 unfold shift_Res.f
 rw [if_pos (u64_nonneg _)]
 exact ⟨_,rfl⟩
theorem shift_Set_f (n a : Int) : ∃ r,shift_Set.f n a = some r :=by
 unfold shift_Set.f
 rw [if_pos (u64_nonneg _)]
 exact ⟨_,rfl⟩
theorem shift_Daa_f (a f : Int) : ∃ r,ycv.f 8 a f = some r :=by
 have h : ∀ x : Int,∃ r,yde.f (x % 256) = some r :=fun x => shift_whole_f _ ⟨Int.emod_nonneg _ (by decide),Int.emod_lt_of_pos _ (by decide)⟩
 have h3 : ∀ k x1 x6 x7,∃ r,ycv.j3 (k + 1) a x1 x6 x7 = some r :=by
  intro k x1 x6 x7
  simp only [ycv.j3]
  obtain ⟨s,hs⟩ :=h (a + x6)
  obtain ⟨t,ht⟩ :=h (a - x6)
  simp only [hs,ht,shift_if1_f,Option.bind_some]
  repeat' (first | exact ⟨_,rfl⟩ | split)
 unfold ycv.f
 simp only [ycv.j0,ycv.j1,ycv.j2]
 repeat' (first | exact h3 _ _ _ _ | split)
theorem shift_Cpl_f (a f : Int) : ∃ r,shift_Cpl.f a f = some r :=⟨_,rfl⟩
theorem shift_Scf_f (a f : Int) : ∃ r,shift_Scf.f a f = some r :=⟨_,rfl⟩
theorem shift_Ccf_f (a f : Int) : ∃ r,shift_Ccf.f a f = some r :=by
 unfold shift_Ccf.f
 simp only [shift_if1_f,Option.bind_some]
 exact ⟨_,rfl⟩
theorem shift_Rrd_f (a m f : Int) : ∃ r,shift_Rrd.f a m f = some r :=by
 unfold shift_Rrd.f
 obtain ⟨s,hs⟩ :=shift_whole_f _ (bits8 .or (Go.bits .and .u8 a 240) (Go.bits .and .u8 m 15))
 simp only [hs,Option.bind_some]
 exact ⟨_,rfl⟩
theorem shift_Rld_f (a m f : Int) : ∃ r,shift_Rld.f a m f = some r :=by
 unfold shift_Rld.f
 obtain ⟨s,hs⟩ :=shift_whole_f _ (bits8 .or (Go.bits .and .u8 a 240) (m / 16))
 simp only [hs,Option.bind_some]
 exact ⟨_,rfl⟩
theorem wide_Plus_f (a d : Int) : ∃ r,wide_Plus.f a d = some r :=⟨_,rfl⟩
theorem decode_Parts_f (op : Int) : ∃ r,ycz.f op = some r :=⟨_,rfl⟩
def vWPlus (x0 : Int) (x1 : Int) : Int :=(wide_Plus.f x0 x1).getD (0)
theorem c_wide_Plus (x0 : Int) (x1 : Int) (w : World) : Calls Tryz.prog 86 #[.int .u16 x0,.int .u8 x1] w fun e w' => e = .returned (.int .u16 ((vWPlus x0 x1))) ∧ Below w.heap.size w w' :=
 (wide_Plus.calls x0 x1 (vWPlus x0 x1) w (zbz (d :=(0)) (wide_Plus_f x0 x1))).mono fun e w' h => ⟨h.1,zan h.2⟩
def vWAdd (x0 : Int) (x1 : Int) (x2 : Int) : Int × Int :=(wide_Add.f x0 x1 x2).getD (0,0)
def vWAdd1 (x0 : Int) (x1 : Int) (x2 : Int) : Int :=(vWAdd x0 x1 x2).1
def vWAdd2 (x0 : Int) (x1 : Int) (x2 : Int) : Int :=(vWAdd x0 x1 x2).2
theorem c_wide_Add (x0 : Int) (x1 : Int) (x2 : Int) (w : World) : Calls Tryz.prog 126 #[.int .u16 x0,.int .u16 x1,.int .u8 x2] w fun e w' => e = .returned (.tuple #[.int .u16 ((vWAdd1 x0 x1 x2)),.int .u8 ((vWAdd2 x0 x1 x2))]) ∧ Below w.heap.size w w' :=
 (wide_Add.calls x0 x1 x2 (vWAdd1 x0 x1 x2) (vWAdd2 x0 x1 x2) w (zbz (d :=(0,0)) (wide_Add_f x0 x1 x2))).mono fun e w' h => ⟨h.1,zan h.2⟩
def vWAdc (x0 : Int) (x1 : Int) (x2 : Int) : Int × Int :=(wide_Adc.f x0 x1 x2).getD (0,0)
/-- Shut by choice: the kernel looks no deeper. -/
noncomputable def vWAdc1 (x0 : Int) (x1 : Int) (x2 : Int) : Int :=Classical.choose (⟨_,rfl⟩ : ∃ r,r = (vWAdc x0 x1 x2).1)
theorem vWAdc1_eq (x0 : Int) (x1 : Int) (x2 : Int) : vWAdc1 x0 x1 x2 = (vWAdc x0 x1 x2).1 :=Classical.choose_spec (⟨_,rfl⟩ : ∃ r,r = (vWAdc x0 x1 x2).1)
/-- Shut by choice: the kernel looks no deeper. -/
noncomputable def vWAdc2 (x0 : Int) (x1 : Int) (x2 : Int) : Int :=Classical.choose (⟨_,rfl⟩ : ∃ r,r = (vWAdc x0 x1 x2).2)
theorem vWAdc2_eq (x0 : Int) (x1 : Int) (x2 : Int) : vWAdc2 x0 x1 x2 = (vWAdc x0 x1 x2).2 :=Classical.choose_spec (⟨_,rfl⟩ : ∃ r,r = (vWAdc x0 x1 x2).2)
theorem c_wide_Adc (x0 : Int) (x1 : Int) (x2 : Int) (w : World) : Calls Tryz.prog 106 #[.int .u16 x0,.int .u16 x1,.int .u8 x2] w fun e w' => e = .returned (.tuple #[.int .u16 ((vWAdc1 x0 x1 x2)),.int .u8 ((vWAdc2 x0 x1 x2))]) ∧ Below w.heap.size w w' :=
 (wide_Adc.calls x0 x1 x2 (vWAdc1 x0 x1 x2) (vWAdc2 x0 x1 x2) w (by rw [vWAdc1_eq,vWAdc2_eq];exact zbz (d :=(0,0)) (wide_Adc_f x0 x1 x2))).mono fun e w' h => ⟨h.1,zan h.2⟩
def vWSbc (x0 : Int) (x1 : Int) (x2 : Int) : Int × Int :=(wide_Sbc.f x0 x1 x2).getD (0,0)
/-- Shut by choice: the kernel looks no deeper. -/
noncomputable def vWSbc1 (x0 : Int) (x1 : Int) (x2 : Int) : Int :=Classical.choose (⟨_,rfl⟩ : ∃ r,r = (vWSbc x0 x1 x2).1)
theorem vWSbc1_eq (x0 : Int) (x1 : Int) (x2 : Int) : vWSbc1 x0 x1 x2 = (vWSbc x0 x1 x2).1 :=Classical.choose_spec (⟨_,rfl⟩ : ∃ r,r = (vWSbc x0 x1 x2).1)
/-- Shut by choice: the kernel looks no deeper. -/
noncomputable def vWSbc2 (x0 : Int) (x1 : Int) (x2 : Int) : Int :=Classical.choose (⟨_,rfl⟩ : ∃ r,r = (vWSbc x0 x1 x2).2)
theorem vWSbc2_eq (x0 : Int) (x1 : Int) (x2 : Int) : vWSbc2 x0 x1 x2 = (vWSbc x0 x1 x2).2 :=Classical.choose_spec (⟨_,rfl⟩ : ∃ r,r = (vWSbc x0 x1 x2).2)
theorem c_wide_Sbc (x0 : Int) (x1 : Int) (x2 : Int) (w : World) : Calls Tryz.prog 104 #[.int .u16 x0,.int .u16 x1,.int .u8 x2] w fun e w' => e = .returned (.tuple #[.int .u16 ((vWSbc1 x0 x1 x2)),.int .u8 ((vWSbc2 x0 x1 x2))]) ∧ Below w.heap.size w w' :=
 (wide_Sbc.calls x0 x1 x2 (vWSbc1 x0 x1 x2) (vWSbc2 x0 x1 x2) w (by rw [vWSbc1_eq,vWSbc2_eq];exact zbz (d :=(0,0)) (wide_Sbc_f x0 x1 x2))).mono fun e w' h => ⟨h.1,zan h.2⟩
def vWMove (x0 : Int) (x1 : Int) (x2 : Int) (x3 : Int) : Int :=(wide_Move.f x0 x1 x2 x3).getD (0)
theorem c_wide_Move (x0 : Int) (x1 : Int) (x2 : Int) (x3 : Int) (w : World) : Calls Tryz.prog 140 #[.int .u8 x0,.int .u8 x1,.int .u16 x2,.int .u8 x3] w fun e w' => e = .returned (.int .u8 ((vWMove x0 x1 x2 x3))) ∧ Below w.heap.size w w' :=
 (wide_Move.calls x0 x1 x2 x3 (vWMove x0 x1 x2 x3) w (zbz (d :=(0)) (wide_Move_f x0 x1 x2 x3))).mono fun e w' h => ⟨h.1,zan h.2⟩
def vWFind (x0 : Int) (x1 : Int) (x2 : Int) (x3 : Int) : Int :=(wide_Find.f x0 x1 x2 x3).getD (0)
theorem c_wide_Find (x0 : Int) (x1 : Int) (x2 : Int) (x3 : Int) (w : World) : Calls Tryz.prog 141 #[.int .u8 x0,.int .u8 x1,.int .u16 x2,.int .u8 x3] w fun e w' => e = .returned (.int .u8 ((vWFind x0 x1 x2 x3))) ∧ Below w.heap.size w w' :=
 (wide_Find.calls x0 x1 x2 x3 (vWFind x0 x1 x2 x3) w (zbz (d :=(0)) (wide_Find_f x0 x1 x2 x3))).mono fun e w' h => ⟨h.1,zan h.2⟩
def vWPort (x0 : Int) (x1 : Int) (x2 : Int) : Int :=(wide_Port.f x0 x1 x2).getD (0)
theorem c_wide_Port (x0 : Int) (x1 : Int) (x2 : Int) (w : World) : Calls Tryz.prog 142 #[.int .u8 x0,.int .u8 x1,.int .u8 x2] w fun e w' => e = .returned (.int .u8 ((vWPort x0 x1 x2))) ∧ Below w.heap.size w w' :=
 (wide_Port.calls x0 x1 x2 (vWPort x0 x1 x2) w (zbz (d :=(0)) (wide_Port_f x0 x1 x2))).mono fun e w' h => ⟨h.1,zan h.2⟩
def vANeg (x0 : Int) : Int × Int :=(alu_Neg.f x0).getD (0,0)
def vANeg1 (x0 : Int) : Int :=(vANeg x0).1
def vANeg2 (x0 : Int) : Int :=(vANeg x0).2
theorem c_alu_Neg (x0 : Int) (w : World) : Calls Tryz.prog 111 #[.int .u8 x0] w fun e w' => e = .returned (.tuple #[.int .u8 ((vANeg1 x0)),.int .u8 ((vANeg2 x0))]) ∧ Below w.heap.size w w' :=
 (alu_Neg.calls x0 (vANeg1 x0) (vANeg2 x0) w (zbz (d :=(0,0)) (alu_Neg_f x0))).mono fun e w' h => ⟨h.1,zan h.2⟩
def vAInc (x0 : Int) (x1 : Int) : Int × Int :=(alu_Inc.f x0 x1).getD (0,0)
def vAInc1 (x0 : Int) (x1 : Int) : Int :=(vAInc x0 x1).1
def vAInc2 (x0 : Int) (x1 : Int) : Int :=(vAInc x0 x1).2
theorem c_alu_Inc (x0 : Int) (x1 : Int) (w : World) : Calls Tryz.prog 128 #[.int .u8 x0,.int .u8 x1] w fun e w' => e = .returned (.tuple #[.int .u8 ((vAInc1 x0 x1)),.int .u8 ((vAInc2 x0 x1))]) ∧ Below w.heap.size w w' :=
 (alu_Inc.calls x0 x1 (vAInc1 x0 x1) (vAInc2 x0 x1) w (zbz (d :=(0,0)) (alu_Inc_f x0 x1))).mono fun e w' h => ⟨h.1,zan h.2⟩
def vADec (x0 : Int) (x1 : Int) : Int × Int :=(alu_Dec.f x0 x1).getD (0,0)
def vADec1 (x0 : Int) (x1 : Int) : Int :=(vADec x0 x1).1
def vADec2 (x0 : Int) (x1 : Int) : Int :=(vADec x0 x1).2
theorem c_alu_Dec (x0 : Int) (x1 : Int) (w : World) : Calls Tryz.prog 129 #[.int .u8 x0,.int .u8 x1] w fun e w' => e = .returned (.tuple #[.int .u8 ((vADec1 x0 x1)),.int .u8 ((vADec2 x0 x1))]) ∧ Below w.heap.size w w' :=
 (alu_Dec.calls x0 x1 (vADec1 x0 x1) (vADec2 x0 x1) w (zbz (d :=(0,0)) (alu_Dec_f x0 x1))).mono fun e w' h => ⟨h.1,zan h.2⟩
def vAAnd (x0 : Int) (x1 : Int) : Int × Int :=(alu_And.f x0 x1).getD (0,0)
def vAAnd1 (x0 : Int) (x1 : Int) : Int :=(vAAnd x0 x1).1
def vAAnd2 (x0 : Int) (x1 : Int) : Int :=(vAAnd x0 x1).2
theorem c_alu_And (x0 : Int) (x1 : Int) (w : World) : Calls Tryz.prog 184 #[.int .u8 x0,.int .u8 x1] w fun e w' => e = .returned (.tuple #[.int .u8 ((vAAnd1 x0 x1)),.int .u8 ((vAAnd2 x0 x1))]) ∧ Below w.heap.size w w' :=
 (alu_And.calls x0 x1 (vAAnd1 x0 x1) (vAAnd2 x0 x1) w (zbz (d :=(0,0)) (alu_And_f x0 x1))).mono fun e w' h => ⟨h.1,zan h.2⟩
def vAOr (x0 : Int) (x1 : Int) : Int × Int :=(alu_Or.f x0 x1).getD (0,0)
def vAOr1 (x0 : Int) (x1 : Int) : Int :=(vAOr x0 x1).1
def vAOr2 (x0 : Int) (x1 : Int) : Int :=(vAOr x0 x1).2
theorem c_alu_Or (x0 : Int) (x1 : Int) (w : World) : Calls Tryz.prog 188 #[.int .u8 x0,.int .u8 x1] w fun e w' => e = .returned (.tuple #[.int .u8 ((vAOr1 x0 x1)),.int .u8 ((vAOr2 x0 x1))]) ∧ Below w.heap.size w w' :=
 (alu_Or.calls x0 x1 (vAOr1 x0 x1) (vAOr2 x0 x1) w (zbz (d :=(0,0)) (alu_Or_f x0 x1))).mono fun e w' h => ⟨h.1,zan h.2⟩
def vAXor (x0 : Int) (x1 : Int) : Int × Int :=(alu_Xor.f x0 x1).getD (0,0)
def vAXor1 (x0 : Int) (x1 : Int) : Int :=(vAXor x0 x1).1
def vAXor2 (x0 : Int) (x1 : Int) : Int :=(vAXor x0 x1).2
theorem c_alu_Xor (x0 : Int) (x1 : Int) (w : World) : Calls Tryz.prog 186 #[.int .u8 x0,.int .u8 x1] w fun e w' => e = .returned (.tuple #[.int .u8 ((vAXor1 x0 x1)),.int .u8 ((vAXor2 x0 x1))]) ∧ Below w.heap.size w w' :=
 (alu_Xor.calls x0 x1 (vAXor1 x0 x1) (vAXor2 x0 x1) w (zbz (d :=(0,0)) (alu_Xor_f x0 x1))).mono fun e w' h => ⟨h.1,zan h.2⟩
def vACp (x0 : Int) (x1 : Int) : Int :=(alu_Cp.f x0 x1).getD (0)
theorem c_alu_Cp (x0 : Int) (x1 : Int) (w : World) : Calls Tryz.prog 190 #[.int .u8 x0,.int .u8 x1] w fun e w' => e = .returned (.int .u8 ((vACp x0 x1))) ∧ Below w.heap.size w w' :=
 (alu_Cp.calls x0 x1 (vACp x0 x1) w (zbz (d :=(0)) (alu_Cp_f x0 x1))).mono fun e w' h => ⟨h.1,zan h.2⟩
def vAAdd (x0 : Int) (x1 : Int) (x2 : Bool) : Int × Int :=(alu_Add.f x0 x1 x2).getD (0,0)
def vAAdd1 (x0 : Int) (x1 : Int) (x2 : Bool) : Int :=(vAAdd x0 x1 x2).1
def vAAdd2 (x0 : Int) (x1 : Int) (x2 : Bool) : Int :=(vAAdd x0 x1 x2).2
theorem c_alu_Add (x0 : Int) (x1 : Int) (x2 : Bool) (w : World) : Calls Tryz.prog 160 #[.int .u8 x0,.int .u8 x1,.bool x2] w fun e w' => e = .returned (.tuple #[.int .u8 ((vAAdd1 x0 x1 x2)),.int .u8 ((vAAdd2 x0 x1 x2))]) ∧ Below w.heap.size w w' :=
 (alu_Add.calls x0 x1 x2 (vAAdd1 x0 x1 x2) (vAAdd2 x0 x1 x2) w (zbz (d :=(0,0)) (alu_Add_f x0 x1 x2))).mono fun e w' h => ⟨h.1,zan h.2⟩
def vASub (x0 : Int) (x1 : Int) (x2 : Bool) : Int × Int :=(ydo.f x0 x1 x2).getD (0,0)
def vASub1 (x0 : Int) (x1 : Int) (x2 : Bool) : Int :=(vASub x0 x1 x2).1
def vASub2 (x0 : Int) (x1 : Int) (x2 : Bool) : Int :=(vASub x0 x1 x2).2
theorem c_alu_Sub (x0 : Int) (x1 : Int) (x2 : Bool) (w : World) : Calls Tryz.prog 147 #[.int .u8 x0,.int .u8 x1,.bool x2] w fun e w' => e = .returned (.tuple #[.int .u8 ((vASub1 x0 x1 x2)),.int .u8 ((vASub2 x0 x1 x2))]) ∧ Below w.heap.size w w' :=
 (ydo.calls x0 x1 x2 (vASub1 x0 x1 x2) (vASub2 x0 x1 x2) w (zbz (d :=(0,0)) (alu_Sub_f x0 x1 x2))).mono fun e w' h => ⟨h.1,zan h.2⟩
def vSShift (x0 : Int) (x1 : Int) (x2 : Int) : Int × Int :=(ydj.f 8 x0 x1 x2).getD (0,0)
def vSShift1 (x0 : Int) (x1 : Int) (x2 : Int) : Int :=(vSShift x0 x1 x2).1
def vSShift2 (x0 : Int) (x1 : Int) (x2 : Int) : Int :=(vSShift x0 x1 x2).2
theorem c_shift_Shift (x0 : Int) (x1 : Int) (x2 : Int) (w : World) : Calls Tryz.prog 116 #[.int .i64 x0,.int .u8 x1,.int .u8 x2] w fun e w' => e = .returned (.tuple #[.int .u8 ((vSShift1 x0 x1 x2)),.int .u8 ((vSShift2 x0 x1 x2))]) ∧ Below w.heap.size w w' :=
 (ydj.calls 8 x0 x1 x2 (vSShift1 x0 x1 x2) (vSShift2 x0 x1 x2) w (zbz (d :=(0,0)) (shift_Shift_f x0 x1 x2))).mono fun e w' h => ⟨h.1,zan h.2⟩
def vSTurn (x0 : Int) (x1 : Int) (x2 : Int) : Int × Int :=(ydp.f 8 x0 x1 x2).getD (0,0)
def vSTurn1 (x0 : Int) (x1 : Int) (x2 : Int) : Int :=(vSTurn x0 x1 x2).1
def vSTurn2 (x0 : Int) (x1 : Int) (x2 : Int) : Int :=(vSTurn x0 x1 x2).2
theorem c_shift_Turn (x0 : Int) (x1 : Int) (x2 : Int) (w : World) : Calls Tryz.prog 130 #[.int .i64 x0,.int .u8 x1,.int .u8 x2] w fun e w' => e = .returned (.tuple #[.int .u8 ((vSTurn1 x0 x1 x2)),.int .u8 ((vSTurn2 x0 x1 x2))]) ∧ Below w.heap.size w w' :=
 (ydp.calls 8 x0 x1 x2 (vSTurn1 x0 x1 x2) (vSTurn2 x0 x1 x2) w (zbz (d :=(0,0)) (shift_Turn_f x0 x1 x2))).mono fun e w' h => ⟨h.1,zan h.2⟩
def vSBit (x0 : Int) (x1 : Int) (x2 : Int) (x3 : Int) : Int :=(shift_Bit.f x0 x1 x2 x3).getD (0)
theorem c_shift_Bit (x0 : Int) (x1 : Int) (x2 : Int) (x3 : Int) (w : World) : Calls Tryz.prog 117 #[.int .i64 x0,.int .u8 x1,.int .u8 x2,.int .u8 x3] w fun e w' => e = .returned (.int .u8 ((vSBit x0 x1 x2 x3))) ∧ Below w.heap.size w w' :=
 (shift_Bit.calls x0 x1 x2 x3 (vSBit x0 x1 x2 x3) w (zbz (d :=(0)) (shift_Bit_f x0 x1 x2 x3))).mono fun e w' h => ⟨h.1,zan h.2⟩
def vSRes (x0 : Int) (x1 : Int) : Int :=(shift_Res.f x0 x1).getD (0)
theorem c_shift_Res (x0 : Int) (x1 : Int) (w : World) : Calls Tryz.prog 118 #[.int .i64 x0,.int .u8 x1] w fun e w' => e = .returned (.int .u8 ((vSRes x0 x1))) ∧ Below w.heap.size w w' :=
 (shift_Res.calls x0 x1 (vSRes x0 x1) w (zbz (d :=(0)) (shift_Res_f x0 x1))).mono fun e w' h => ⟨h.1,zan h.2⟩
def vSSet (x0 : Int) (x1 : Int) : Int :=(shift_Set.f x0 x1).getD (0)
theorem c_shift_Set (x0 : Int) (x1 : Int) (w : World) : Calls Tryz.prog 119 #[.int .i64 x0,.int .u8 x1] w fun e w' => e = .returned (.int .u8 ((vSSet x0 x1))) ∧ Below w.heap.size w w' :=
 (shift_Set.calls x0 x1 (vSSet x0 x1) w (zbz (d :=(0)) (shift_Set_f x0 x1))).mono fun e w' h => ⟨h.1,zan h.2⟩
def vSDaa (x0 : Int) (x1 : Int) : Int × Int :=(ycv.f 8 x0 x1).getD (0,0)
def vSDaa1 (x0 : Int) (x1 : Int) : Int :=(vSDaa x0 x1).1
def vSDaa2 (x0 : Int) (x1 : Int) : Int :=(vSDaa x0 x1).2
theorem c_shift_Daa (x0 : Int) (x1 : Int) (w : World) : Calls Tryz.prog 131 #[.int .u8 x0,.int .u8 x1] w fun e w' => e = .returned (.tuple #[.int .u8 ((vSDaa1 x0 x1)),.int .u8 ((vSDaa2 x0 x1))]) ∧ Below w.heap.size w w' :=
 (ycv.calls 8 x0 x1 (vSDaa1 x0 x1) (vSDaa2 x0 x1) w (zbz (d :=(0,0)) (shift_Daa_f x0 x1))).mono fun e w' h => ⟨h.1,zan h.2⟩
def vSCpl (x0 : Int) (x1 : Int) : Int × Int :=(shift_Cpl.f x0 x1).getD (0,0)
def vSCpl1 (x0 : Int) (x1 : Int) : Int :=(vSCpl x0 x1).1
def vSCpl2 (x0 : Int) (x1 : Int) : Int :=(vSCpl x0 x1).2
theorem c_shift_Cpl (x0 : Int) (x1 : Int) (w : World) : Calls Tryz.prog 132 #[.int .u8 x0,.int .u8 x1] w fun e w' => e = .returned (.tuple #[.int .u8 ((vSCpl1 x0 x1)),.int .u8 ((vSCpl2 x0 x1))]) ∧ Below w.heap.size w w' :=
 (shift_Cpl.calls x0 x1 (vSCpl1 x0 x1) (vSCpl2 x0 x1) w (zbz (d :=(0,0)) (shift_Cpl_f x0 x1))).mono fun e w' h => ⟨h.1,zan h.2⟩
def vSScf (x0 : Int) (x1 : Int) : Int :=(shift_Scf.f x0 x1).getD (0)
theorem c_shift_Scf (x0 : Int) (x1 : Int) (w : World) : Calls Tryz.prog 133 #[.int .u8 x0,.int .u8 x1] w fun e w' => e = .returned (.int .u8 ((vSScf x0 x1))) ∧ Below w.heap.size w w' :=
 (shift_Scf.calls x0 x1 (vSScf x0 x1) w (zbz (d :=(0)) (shift_Scf_f x0 x1))).mono fun e w' h => ⟨h.1,zan h.2⟩
def vSCcf (x0 : Int) (x1 : Int) : Int :=(shift_Ccf.f x0 x1).getD (0)
theorem c_shift_Ccf (x0 : Int) (x1 : Int) (w : World) : Calls Tryz.prog 134 #[.int .u8 x0,.int .u8 x1] w fun e w' => e = .returned (.int .u8 ((vSCcf x0 x1))) ∧ Below w.heap.size w w' :=
 (shift_Ccf.calls x0 x1 (vSCcf x0 x1) w (zbz (d :=(0)) (shift_Ccf_f x0 x1))).mono fun e w' h => ⟨h.1,zan h.2⟩
def vSRrd (x0 : Int) (x1 : Int) (x2 : Int) : Int × Int × Int :=(shift_Rrd.f x0 x1 x2).getD (0,0,0)
def vSRrd1 (x0 : Int) (x1 : Int) (x2 : Int) : Int :=(vSRrd x0 x1 x2).1
def vSRrd2 (x0 : Int) (x1 : Int) (x2 : Int) : Int :=(vSRrd x0 x1 x2).2.1
def vSRrd3 (x0 : Int) (x1 : Int) (x2 : Int) : Int :=(vSRrd x0 x1 x2).2.2
theorem c_shift_Rrd (x0 : Int) (x1 : Int) (x2 : Int) (w : World) : Calls Tryz.prog 148 #[.int .u8 x0,.int .u8 x1,.int .u8 x2] w fun e w' => e = .returned (.tuple #[.int .u8 ((vSRrd1 x0 x1 x2)),.int .u8 ((vSRrd2 x0 x1 x2)),.int .u8 ((vSRrd3 x0 x1 x2))]) ∧ Below w.heap.size w w' :=
 (shift_Rrd.calls x0 x1 x2 (vSRrd1 x0 x1 x2) (vSRrd2 x0 x1 x2) (vSRrd3 x0 x1 x2) w (zbz (d :=(0,0,0)) (shift_Rrd_f x0 x1 x2))).mono fun e w' h => ⟨h.1,zan h.2⟩
def vSRld (x0 : Int) (x1 : Int) (x2 : Int) : Int × Int × Int :=(shift_Rld.f x0 x1 x2).getD (0,0,0)
def vSRld1 (x0 : Int) (x1 : Int) (x2 : Int) : Int :=(vSRld x0 x1 x2).1
def vSRld2 (x0 : Int) (x1 : Int) (x2 : Int) : Int :=(vSRld x0 x1 x2).2.1
def vSRld3 (x0 : Int) (x1 : Int) (x2 : Int) : Int :=(vSRld x0 x1 x2).2.2
theorem c_shift_Rld (x0 : Int) (x1 : Int) (x2 : Int) (w : World) : Calls Tryz.prog 149 #[.int .u8 x0,.int .u8 x1,.int .u8 x2] w fun e w' => e = .returned (.tuple #[.int .u8 ((vSRld1 x0 x1 x2)),.int .u8 ((vSRld2 x0 x1 x2)),.int .u8 ((vSRld3 x0 x1 x2))]) ∧ Below w.heap.size w w' :=
 (shift_Rld.calls x0 x1 x2 (vSRld1 x0 x1 x2) (vSRld2 x0 x1 x2) (vSRld3 x0 x1 x2) w (zbz (d :=(0,0,0)) (shift_Rld_f x0 x1 x2))).mono fun e w' h => ⟨h.1,zan h.2⟩
def zbb (x0 : Int) : Int × Int × Int × Int × Int :=(ycz.f x0).getD (0,0,0,0,0)
theorem c_decode_Parts (x0 : Int) (w : World) : Calls Tryz.prog 61 #[.int .i64 x0] w fun e w' => e = .returned (.tuple #[.int .i64 ((zbb x0).1),.int .i64 ((zbb x0).2.1),.int .i64 ((zbb x0).2.2.1),.int .i64 ((zbb x0).2.2.2.1),.int .i64 ((zbb x0).2.2.2.2)]) ∧ Below w.heap.size w w' :=
 (ycz.calls x0 (zbb x0).1 (zbb x0).2.1 (zbb x0).2.2.1 (zbb x0).2.2.2.1 (zbb x0).2.2.2.2 w (zbz (d :=(0,0,0,0,0)) (decode_Parts_f x0))).mono fun e w' h => ⟨h.1,zan h.2⟩
theorem c_alu_Own (a : Int) (w : World) : Calls Tryz.prog 100 #[.int .u8 a] w fun e w' => e = .returned (.int .u8 (aOwn a)) ∧ Below w.heap.size w w' :=
 (ydi.calls a _ w (alu_Own_f a)).mono fun e w' h => ⟨h.1,zan h.2⟩
theorem c_alu_Parity (a : Int) (w : World) (h : 0 ≤ a ∧ a < 256) : Calls Tryz.prog 102 #[.int .u8 a] w fun e w' => e = .returned (.bool (aParity a)) ∧ Below w.heap.size w w' :=
 (ydg.calls a _ w (alu_Parity_f a h)).mono fun e w' h => ⟨h.1,zan h.2⟩
def vIf1 (b : Bool) (x : Int) : Int :=if b = true then x else 0
theorem c_step_if1 (b : Bool) (x : Int) (w : World) : Calls Tryz.prog 101 #[.bool b,.int .u8 x] w fun e w' => e = .returned (.int .u8 (vIf1 b x)) ∧ Below w.heap.size w w' :=
 (step_if1.calls b x _ w (step_if1_f b x)).mono fun e w' h => ⟨h.1,zan h.2⟩
end Go.Proofs.YtnelghpendfdmaaGreatDoor.KRow
