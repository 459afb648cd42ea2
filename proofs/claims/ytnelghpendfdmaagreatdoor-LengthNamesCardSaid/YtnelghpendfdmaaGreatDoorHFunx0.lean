-- Out of the text that the kit's print.sh printed, by a program of this session that left out what is not used here (prune.py).
import Derived.Laws.BitsAllLaws
import Derived.OpenShut
import Derived.Test.YtnelghpendfdmaaGreatDoorWMore
import Derived.Test.YtnelghpendfdmaaGreatDoorProg
import Derived.Test.YtnelghpendfdmaaGreatDoorWTab
/-! ### 58. A guarded operation whose guard is known to want it: the same goal without the guard -/
namespace Go.Proofs.YtnelghpendfdmaaGreatDoorW.PrintWords
open Go.RowKit
section
variable {P : Program} {ops : Array Oper} {rest : List Oper} {o : Oper} {a : Act} {Q : Exit → Act → World → Prop} {W : World}
/-- The gate takes the guard off (hw: 'by rfl', 'by kernel_rfl': the guard's slot holds what is wanted). -/
theorem gate_guard (hw : Region.wanted o (yielded ops a.tmps) = true) (h : wpList P ops Q ({ o with guard :=none } :: rest) a W) : wpList P ops Q (o :: rest) a W :=by
 have h1 : Region.wanted { o with guard :=none } (yielded ops a.tmps) = true :=rfl
 unfold wpList at h ⊢
 rw [if_pos h1] at h
 rw [if_pos hw]
 exact h
end
end Go.Proofs.YtnelghpendfdmaaGreatDoorW.PrintWords
/- Plain lemmas on bytes, words and their bits, as sums of quotients and remainders (no program in sight). -/
set_option linter.unusedVariables false
namespace Go.Proofs.YtnelghpendfdmaaGreatDoor.B
open Go Go.RowKit

theorem w64 {x : Int} (h0 : -9223372036854775808 ≤ x) (h1 : x < 9223372036854775808) : wrap64 x = x :=by
 unfold wrap64;omega
theorem wu8 (x : Int) : IntKind.u8.wrap x = x % 256 :=IntKind.wrap_u8' x
theorem wu16 (x : Int) : IntKind.u16.wrap x = x % 65536 :=IntKind.wrap_u16 x
-- bytes: and with a mask
section
variable {x : Int} (h0 : 0 ≤ x) (h1 : x < 256)
include h0 h1
end
-- bytes: and not a mask: x less the bits
-- bytes: or with one bit that is not set
section
variable {x y : Int} (h0 : 0 ≤ x) (h1 : x < 256)
include h0 h1
end
-- a high half and a low half
-- words
/-- A byte's own flags: S, Y, X, Z. -/
def own (r : Int) : Int :=r / 128 * 128 + r / 32 % 2 * 32 + r / 8 % 2 * 8 + (if r = 0 then 64 else 0)
section
variable {o c h p : Int} (h0 : 0 ≤ o) (h1 : o < 256) (ho : o % 8 = 0) (ho' : o / 16 % 2 = 0) (hc : c = 0 ∨ c = 1) (hh : h = 0 ∨ h = 16) (hp : p = 0 ∨ p = 4)
include h0 h1 ho ho' hc hh hp
end
end Go.Proofs.YtnelghpendfdmaaGreatDoor.B
/- Plain lemmas on shifts and rotations of bytes (no program in sight). -/
set_option linter.unusedVariables false
namespace Go.Proofs.YtnelghpendfdmaaGreatDoor.B
open Go Go.RowKit
theorem and_i64 (m j : Nat) (hj : j ≤ 8) (hm : m = 2 ^ j - 1) (x : Int) : bits .and .i64 x (m : Int) = x % (2 ^ j : Nat) :=by
 have hm' : m < 256 :=by
  subst hm
  have : ∀ j : Fin 9,2 ^ j.val - 1 < 256 :=by decide
  exact this ⟨j,by omega⟩
 have e : (BitVec.ofInt 64 (m : Int)).toNat = m :=by simp;omega
 have d : (x % (2 ^ 64 : Int)).toNat % 2 ^ j = (x % (2 ^ j : Nat)).toNat :=by
  have h64 : (2 : Int) ^ 64 = (2 ^ j : Nat) * (2 ^ (64 - j) : Nat) :=by
   rw [← Int.natCast_mul,← Nat.pow_add,show j + (64 - j) = 64 by omega];rfl
  have n0 : 0 ≤ x % (2 ^ 64 : Int) :=Int.emod_nonneg _ (by decide)
  have p0 : (0 : Int) < (2 ^ j : Nat) :=by have :=Nat.two_pow_pos j;omega
  have q : (((x % (2 ^ 64 : Int)).toNat % 2 ^ j : Nat) : Int) = x % (2 ^ j : Nat) :=by
   rw [Int.natCast_emod,Int.toNat_of_nonneg n0,h64];exact Int.emod_emod_of_dvd x (Int.dvd_mul_right _ _)
  omega
 have p0 : (0 : Int) < (2 ^ j : Nat) :=by have :=Nat.two_pow_pos j;omega
 have u0 :=Int.emod_nonneg x (show ((2 ^ j : Nat) : Int) ≠ 0 by omega)
 have u1 :=Int.emod_lt_of_pos x p0
 have pj : 2 ^ j ≤ 256 :=by
  have : ∀ j : Fin 9,2 ^ j.val ≤ 256 :=by decide
  exact this ⟨j,by omega⟩
 change IntKind.i64.wrap (((BitVec.ofInt 64 x &&& BitVec.ofInt 64 (m : Int)).toNat : Nat) : Int) = _
 rw [BitVec.toNat_and,e,BitVec.toNat_ofInt]
 rw [hm,Nat.and_two_pow_sub_one_eq_mod,show ((2 ^ 64 : Nat) : Int) = (2 ^ 64 : Int) from rfl,d,Int.toNat_of_nonneg u0]
 rw [IntKind.wrap_i64];omega
theorem i64_7 (x : Int) : bits .and .i64 x 7 = x % 8 :=and_i64 7 3 (by decide) rfl x
theorem i64_3 (x : Int) : bits .and .i64 x 3 = x % 4 :=and_i64 3 2 (by decide) rfl x
end Go.Proofs.YtnelghpendfdmaaGreatDoor.B
-- Written by a program of this session out of Lean's print of the program (after the form of the kit's print.sh, with own turns); Lean checks it.
namespace Go.Proofs.YtnelghpendfdmaaGreatDoor.HFun
open Go.RowKit Go.Proofs.YtnelghpendfdmaaGreatDoorW.PrintWords Go.Proofs.YtnelghpendfdmaaGreatDoorW.PrintLast Go.Proofs.YtnelghpendfdmaaGreatDoorW.PrintMore
attribute [local go_sem] max2_int min2_int max_two min_two max_three min_three max_four min_four   -- for this text's walks alone
set_option linter.unusedVariables false
set_option linter.unusedSimpArgs false



def errW : Option Int → Value
 | none => .nilIface
 | some c => .iface 0 (.int .i64 c)
theorem errW_none : errW none = .nilIface :=rfl
theorem errW_some (c : Int) : errW (some c) = .iface 0 (.int .i64 c) :=rfl

theorem info5 : (Tryz.prog.info? 5).map (fun i => (i.zero,i.size,i.bytes)) = some (some (.int .u8 0),1,1) :=by kernel_rfl
-- the values' own types
/-! #### struct type 56 -/
structure S56 where
 f0 : Int
 f1 : Int
 f2 : Int
 f3 : Int
def z56 : S56 :=⟨(0 : Int),(0 : Int),(0 : Int),(0 : Int)⟩
def k56 : Kd S56 :=Kd.iso (Kd.pair (Kd.int .i64) (Kd.pair (Kd.int .u16) (Kd.pair (Kd.int .u8) (Kd.int .i64)))) (fun x : S56 => (x.f0,x.f1,x.f2,x.f3))
theorem k56_open {w : World} {x : S56} {cs : List Value} (h : k56.K w x cs) : cs = [.int .i64 x.f0,.int .u16 x.f1,.int .u8 x.f2,.int .i64 x.f3] :=by
 obtain ⟨_,_,rfl,rfl,⟨_,_,rfl,rfl,⟨_,_,rfl,rfl,rfl⟩⟩⟩ :=h
 exact rfl
theorem k56_openM {w : World} {base : Nat} {ok : Nat → Prop} {x : S56} {cs : List Value} (h : k56.M w base ok x cs) : cs = [.int .i64 x.f0,.int .u16 x.f1,.int .u8 x.f2,.int .i64 x.f3] :=by
 obtain ⟨_,_,rfl,rfl,⟨_,_,rfl,rfl,⟨_,_,rfl,rfl,rfl⟩⟩⟩ :=h
 exact rfl
theorem k56_mkM (w : World) (base : Nat) (ok : Nat → Prop) (x : S56)  : k56.M w base ok x [.int .i64 x.f0,.int .u16 x.f1,.int .u8 x.f2,.int .i64 x.f3] :=⟨[.int .i64 x.f0],[.int .u16 x.f1,.int .u8 x.f2,.int .i64 x.f3],rfl,rfl,⟨[.int .u16 x.f1],[.int .u8 x.f2,.int .i64 x.f3],rfl,rfl,⟨[.int .u8 x.f2],[.int .i64 x.f3],rfl,rfl,rfl⟩⟩⟩
def rd_T56 (xs : List S56) (i : Int) : S56 :=xs.getD i.toNat z56
theorem at_T56 {w : World} {A : Option Addr} {n : Nat} {xs : List S56} (h : Kd.C k56 w A n xs) (i : Int) (h0 : 0 ≤ i) (h1 : i < n) : ∃ ad ,A = some ad ∧ w.cell? (ad.add (i.toNat * 4)) = some (.int .i64 (rd_T56 xs i).f0) ∧ w.cell? ⟨(ad.add (i.toNat * 4)).block,(ad.add (i.toNat * 4)).off + 1,none⟩ = some (.int .u16 (rd_T56 xs i).f1) ∧ w.cell? ⟨(ad.add (i.toNat * 4)).block,(ad.add (i.toNat * 4)).off + 2,none⟩ = some (.int .u8 (rd_T56 xs i).f2) ∧ w.cell? ⟨(ad.add (i.toNat * 4)).block,(ad.add (i.toNat * 4)).off + 3,none⟩ = some (.int .i64 (rd_T56 xs i).f3) :=by
 obtain ⟨ad,c,e,_,hK,hc0⟩ :=Kd.C_get h z56 i h0 h1
 have hc : ∀ j u,c[j]? = some u → w.cell? (ad.add (i.toNat * 4 + j)) = some u :=hc0
 obtain rfl :=k56_open hK
 exact ⟨ad,e,hc 0 _ rfl,by rw [← add_field _ _ 1 (by omega)];exact hc 1 _ rfl,by rw [← add_field _ _ 2 (by omega)];exact hc 2 _ rfl,by rw [← add_field _ _ 3 (by omega)];exact hc 3 _ rfl⟩

end Go.Proofs.YtnelghpendfdmaaGreatDoor.HFun
