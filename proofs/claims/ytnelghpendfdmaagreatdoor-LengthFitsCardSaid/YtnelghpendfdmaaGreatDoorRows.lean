/-
  NARROWER THAN 'FOR EVERY INPUT', by the rows' own cells (each row's printed sentence says how): LengthFits: laid · FlatNil: laid · StepNames: laid · StepReads: laid · StepBlocks: laid · StepHalts: laid · LengthNames: laid.
  DERIVED. THE GIVEN ROWS OF THIS SEAT. 7 by the template 'for every input the law returns true; each argument reads behind the call as it read before'; 0 by the template 'total and deterministic' (their statements: YtnelghpendfdmaaGreatDoorTotals.lean).
  GIVEN WITH THE SEED: the statements are not yours to turn. If you find one false, say at which input.
  Laid BY PROGRAM, IN A SANDBOX (cutbox-rows.mjs): the forced cells as the released guide's own fill.sh prints them over the translation 3fc049183c40b551… (all of the seat's roots in one cut). By AI agents, Wed Nov 11 2026. No macro, syntax, notation, axiom, sorry.
-/
import Derived.Test.YtnelghpendfdmaaGreatDoorChecked
import GoSem.Claim
import GoSem.ClaimJoined
import GoSem.ClaimMapViews
import Derived.JoinedTies
import Derived.KernelRfl
namespace Go.Proofs.YtnelghpendfdmaaGreatDoor
/- THE CELL 'sum', in the pinned program and in every row, IS THE sha256 OF THE DUMP (.gsa) THAT YtnelghpendfdmaaGreatDoorProg.lean LOADS. Nothing in Lean hashes anything: it is a label: what it is worth is what the hold of that sum in a sandbox is worth. -/
noncomputable def Tryz.pinned : Pinned := { name := "ytnelghpendfdmaagreatdoor", sum := "3fc049183c40b5511bb047fe2049886961a1ede30e31d100a74cec97add9ed40", checked := Tryz.checked }
namespace Rows
def none {H : Type} : Left H := { results := [], args := [] }

/- WHAT THE LISTED PACKAGE-LEVEL VARIABLES READ AS WHEN THE CALL BEGINS. Each datum BY PROGRAM (the guide's laid-datum.mjs) off the statement by which the dump's own 'gosem.cut.vars' lays the variable. In a bare row this is a premise. The card (YtnelghpendfdmaaGreatDoorCards.lean) ties it to the program's text. -/
def laid_pendulum_alu_does {H : Type} : DataW H := .iface "func table" (.agg [.iface "func" (.lit (.string [112, 101, 110, 100, 117, 108, 117, 109, 47, 97, 108, 117, 46, 100, 111, 101, 115, 36, 49])), .iface "func" (.lit (.string [112, 101, 110, 100, 117, 108, 117, 109, 47, 97, 108, 117, 46, 100, 111, 101, 115, 36, 50])), .iface "func" (.lit (.string [112, 101, 110, 100, 117, 108, 117, 109, 47, 97, 108, 117, 46, 100, 111, 101, 115, 36, 51])), .iface "func" (.lit (.string [112, 101, 110, 100, 117, 108, 117, 109, 47, 97, 108, 117, 46, 100, 111, 101, 115, 36, 52])), .iface "func" (.lit (.string [112, 101, 110, 100, 117, 108, 117, 109, 47, 97, 108, 117, 46, 100, 111, 101, 115, 36, 53])), .iface "func" (.lit (.string [112, 101, 110, 100, 117, 108, 117, 109, 47, 97, 108, 117, 46, 100, 111, 101, 115, 36, 54])), .iface "func" (.lit (.string [112, 101, 110, 100, 117, 108, 117, 109, 47, 97, 108, 117, 46, 100, 111, 101, 115, 36, 55])), .iface "func" (.lit (.string [112, 101, 110, 100, 117, 108, 117, 109, 47, 97, 108, 117, 46, 100, 111, 101, 115, 36, 56]))])

/-- 'pendulumlaw12.LengthFits': WHATEVER THE INPUT: true; the input reads as it did. -/
def lengthFitsSpec : ChangeSpec := { name := "lengthFits", fn := fun _ => fun
  | [d1, d2] => { results := [.lit (.bool true)], args := [d1, d2] }
  | _ => none }
def lengthFitsRow : OpenClaim := { program := "ytnelghpendfdmaagreatdoor", sum := "3fc049183c40b5511bb047fe2049886961a1ede30e31d100a74cec97add9ed40", func := "pendulum/pendulumlaw12.LengthFits", spec := "lengthFits", unfollowed := true, recurses := true, named := ["pendulum/alu.does"], apart := false, laid := [("pendulum/alu.does", laid_pendulum_alu_does)] }
def LengthFitsSaid : Prop := lengthFitsRow.holds Tryz.pinned (OpenSpec.ofChange lengthFitsSpec)

/-- ITS FALSE NEIGHBOUR: 'it returns false'. Refute it at one input. -/
def lengthFitsWrong : ChangeSpec := { name := "lengthFits", fn := fun _ => fun
  | [d1, d2] => { results := [.lit (.bool false)], args := [d1, d2] }
  | _ => none }
def LengthFitsWrongFalsely : Prop := lengthFitsRow.holds Tryz.pinned (OpenSpec.ofChange lengthFitsWrong)

/-- 'pendulumlaw12.FlatNil': WHATEVER THE INPUT: true; the input reads as it did. -/
def flatNilSpec : ChangeSpec := { name := "flatNil", fn := fun _ => fun
  | [d1, d2] => { results := [.lit (.bool true)], args := [d1, d2] }
  | _ => none }
def flatNilRow : OpenClaim := { program := "ytnelghpendfdmaagreatdoor", sum := "3fc049183c40b5511bb047fe2049886961a1ede30e31d100a74cec97add9ed40", func := "pendulum/pendulumlaw12.FlatNil", spec := "flatNil", unfollowed := true, recurses := true, named := ["pendulum/alu.does"], apart := false, laid := [("pendulum/alu.does", laid_pendulum_alu_does)] }
def FlatNilSaid : Prop := flatNilRow.holds Tryz.pinned (OpenSpec.ofChange flatNilSpec)

/-- ITS FALSE NEIGHBOUR: 'it returns false'. Refute it at one input. -/
def flatNilWrong : ChangeSpec := { name := "flatNil", fn := fun _ => fun
  | [d1, d2] => { results := [.lit (.bool false)], args := [d1, d2] }
  | _ => none }
def FlatNilWrongFalsely : Prop := flatNilRow.holds Tryz.pinned (OpenSpec.ofChange flatNilWrong)

/-- 'pendulumlaw11.StepNames': WHATEVER THE INPUT: true; the input reads as it did. -/
def stepNamesSpec : ChangeSpec := { name := "stepNames", fn := fun _ => fun
  | [] => { results := [.lit (.bool true)], args := [] }
  | _ => none }
def stepNamesRow : OpenClaim := { program := "ytnelghpendfdmaagreatdoor", sum := "3fc049183c40b5511bb047fe2049886961a1ede30e31d100a74cec97add9ed40", func := "pendulum/pendulumlaw11.StepNames", spec := "stepNames", unfollowed := true, recurses := true, named := ["pendulum/alu.does"], apart := false, laid := [("pendulum/alu.does", laid_pendulum_alu_does)] }
def StepNamesSaid : Prop := stepNamesRow.holds Tryz.pinned (OpenSpec.ofChange stepNamesSpec)

/-- ITS FALSE NEIGHBOUR: 'it returns false'. Refute it at one input. -/
def stepNamesWrong : ChangeSpec := { name := "stepNames", fn := fun _ => fun
  | [] => { results := [.lit (.bool false)], args := [] }
  | _ => none }
def StepNamesWrongFalsely : Prop := stepNamesRow.holds Tryz.pinned (OpenSpec.ofChange stepNamesWrong)

/-- 'pendulumlaw11.StepReads': WHATEVER THE INPUT: true; the input reads as it did. -/
def stepReadsSpec : ChangeSpec := { name := "stepReads", fn := fun _ => fun
  | [d1, d2, d3] => { results := [.lit (.bool true)], args := [d1, d2, d3] }
  | _ => none }
def stepReadsRow : OpenClaim := { program := "ytnelghpendfdmaagreatdoor", sum := "3fc049183c40b5511bb047fe2049886961a1ede30e31d100a74cec97add9ed40", func := "pendulum/pendulumlaw11.StepReads", spec := "stepReads", unfollowed := true, recurses := true, named := ["pendulum/alu.does"], apart := false, laid := [("pendulum/alu.does", laid_pendulum_alu_does)] }
def StepReadsSaid : Prop := stepReadsRow.holds Tryz.pinned (OpenSpec.ofChange stepReadsSpec)

/-- ITS FALSE NEIGHBOUR: 'it returns false'. Refute it at one input. -/
def stepReadsWrong : ChangeSpec := { name := "stepReads", fn := fun _ => fun
  | [d1, d2, d3] => { results := [.lit (.bool false)], args := [d1, d2, d3] }
  | _ => none }
def StepReadsWrongFalsely : Prop := stepReadsRow.holds Tryz.pinned (OpenSpec.ofChange stepReadsWrong)

/-- 'pendulumlaw11.StepBlocks': WHATEVER THE INPUT: true; the input reads as it did. -/
def stepBlocksSpec : ChangeSpec := { name := "stepBlocks", fn := fun _ => fun
  | [d1, d2, d3] => { results := [.lit (.bool true)], args := [d1, d2, d3] }
  | _ => none }
def stepBlocksRow : OpenClaim := { program := "ytnelghpendfdmaagreatdoor", sum := "3fc049183c40b5511bb047fe2049886961a1ede30e31d100a74cec97add9ed40", func := "pendulum/pendulumlaw11.StepBlocks", spec := "stepBlocks", unfollowed := true, recurses := true, named := ["pendulum/alu.does"], apart := false, laid := [("pendulum/alu.does", laid_pendulum_alu_does)] }
def StepBlocksSaid : Prop := stepBlocksRow.holds Tryz.pinned (OpenSpec.ofChange stepBlocksSpec)

/-- ITS FALSE NEIGHBOUR: 'it returns false'. Refute it at one input. -/
def stepBlocksWrong : ChangeSpec := { name := "stepBlocks", fn := fun _ => fun
  | [d1, d2, d3] => { results := [.lit (.bool false)], args := [d1, d2, d3] }
  | _ => none }
def StepBlocksWrongFalsely : Prop := stepBlocksRow.holds Tryz.pinned (OpenSpec.ofChange stepBlocksWrong)

/-- 'pendulumlaw11.StepHalts': WHATEVER THE INPUT: true; the input reads as it did. -/
def stepHaltsSpec : ChangeSpec := { name := "stepHalts", fn := fun _ => fun
  | [d1, d2, d3] => { results := [.lit (.bool true)], args := [d1, d2, d3] }
  | _ => none }
def stepHaltsRow : OpenClaim := { program := "ytnelghpendfdmaagreatdoor", sum := "3fc049183c40b5511bb047fe2049886961a1ede30e31d100a74cec97add9ed40", func := "pendulum/pendulumlaw11.StepHalts", spec := "stepHalts", unfollowed := true, recurses := true, named := ["pendulum/alu.does"], apart := false, laid := [("pendulum/alu.does", laid_pendulum_alu_does)] }
def StepHaltsSaid : Prop := stepHaltsRow.holds Tryz.pinned (OpenSpec.ofChange stepHaltsSpec)

/-- ITS FALSE NEIGHBOUR: 'it returns false'. Refute it at one input. -/
def stepHaltsWrong : ChangeSpec := { name := "stepHalts", fn := fun _ => fun
  | [d1, d2, d3] => { results := [.lit (.bool false)], args := [d1, d2, d3] }
  | _ => none }
def StepHaltsWrongFalsely : Prop := stepHaltsRow.holds Tryz.pinned (OpenSpec.ofChange stepHaltsWrong)

/-- 'pendulumlaw12.LengthNames': WHATEVER THE INPUT: true; the input reads as it did. -/
def lengthNamesSpec : ChangeSpec := { name := "lengthNames", fn := fun _ => fun
  | [] => { results := [.lit (.bool true)], args := [] }
  | _ => none }
def lengthNamesRow : OpenClaim := { program := "ytnelghpendfdmaagreatdoor", sum := "3fc049183c40b5511bb047fe2049886961a1ede30e31d100a74cec97add9ed40", func := "pendulum/pendulumlaw12.LengthNames", spec := "lengthNames", unfollowed := true, recurses := true, named := ["pendulum/alu.does"], apart := false, laid := [("pendulum/alu.does", laid_pendulum_alu_does)] }
def LengthNamesSaid : Prop := lengthNamesRow.holds Tryz.pinned (OpenSpec.ofChange lengthNamesSpec)

/-- ITS FALSE NEIGHBOUR: 'it returns false'. Refute it at one input. -/
def lengthNamesWrong : ChangeSpec := { name := "lengthNames", fn := fun _ => fun
  | [] => { results := [.lit (.bool false)], args := [] }
  | _ => none }
def LengthNamesWrongFalsely : Prop := lengthNamesRow.holds Tryz.pinned (OpenSpec.ofChange lengthNamesWrong)

/- THE SECOND FORM. 'bulk': how many values and letters a reading holds, each counted each time it is reached (what is shared counts as often as it is met; a slice's spare places count too). A statement '..UptoSaid' is the law's where the arguments, and the package variables that the reading takes, are together of bulk at most 1048576: NARROWER than '..Said'. Prove '..Said' where nothing that the law and all that it calls make is longer than what came in: it says more and counts as full. Else prove '..UptoSaid'. A law counts once. -/
mutual
def uptoBulk {H : Type} : DataW H → Nat
  | .lit (.string bytes) => bytes.length + 1
  | .lit _ => 1
  | .nil => 1
  | .ptr d => uptoBulk d + 1
  | .slice elems spare => uptoBulkAll elems + uptoBulkAll spare + 1
  | .agg parts => uptoBulkAll parts + 1
  | .iface _ d => uptoBulk d + 1
  | .map entries => uptoBulkEntries entries + 1
  | .held _ => 1
def uptoBulkAll {H : Type} : List (DataW H) → Nat
  | [] => 0
  | d :: r => uptoBulk d + uptoBulkAll r
def uptoBulkEntries {H : Type} : List (Lit × DataW H) → Nat
  | [] => 0
  | x :: r => uptoBulkEntry x + uptoBulkEntries r
def uptoBulkEntry {H : Type} : Lit × DataW H → Nat
  | (.string bytes, d) => bytes.length + uptoBulk d + 1
  | (_, d) => uptoBulk d + 1
 end
def uptoSmall : (H : Type) → List (DataW H) → Bool := fun _ ds => decide (uptoBulkAll ds ≤ 1048576)
def OpenSpec.upto (s : _root_.Go.ChangeSpec) : _root_.Go.OpenSpec := { _root_.Go.OpenSpec.ofChange s with cond := some uptoSmall }

/-- 'pendulumlaw12.LengthFits', WHERE WHAT IT READS IS OF BULK AT MOST 1048576: true; the input reads as it did. -/
def lengthFitsUptoRow : OpenClaim := { program := "ytnelghpendfdmaagreatdoor", sum := "3fc049183c40b5511bb047fe2049886961a1ede30e31d100a74cec97add9ed40", func := "pendulum/pendulumlaw12.LengthFits", spec := "lengthFits", unfollowed := true, recurses := true, named := ["pendulum/alu.does"], apart := false, laid := [("pendulum/alu.does", laid_pendulum_alu_does)], narrowed := true }
def LengthFitsUptoSaid : Prop := lengthFitsUptoRow.holds Tryz.pinned (OpenSpec.upto lengthFitsSpec)

/-- 'pendulumlaw12.FlatNil', WHERE WHAT IT READS IS OF BULK AT MOST 1048576: true; the input reads as it did. -/
def flatNilUptoRow : OpenClaim := { program := "ytnelghpendfdmaagreatdoor", sum := "3fc049183c40b5511bb047fe2049886961a1ede30e31d100a74cec97add9ed40", func := "pendulum/pendulumlaw12.FlatNil", spec := "flatNil", unfollowed := true, recurses := true, named := ["pendulum/alu.does"], apart := false, laid := [("pendulum/alu.does", laid_pendulum_alu_does)], narrowed := true }
def FlatNilUptoSaid : Prop := flatNilUptoRow.holds Tryz.pinned (OpenSpec.upto flatNilSpec)

/-- 'pendulumlaw11.StepNames', WHERE WHAT IT READS IS OF BULK AT MOST 1048576: true; the input reads as it did. -/
def stepNamesUptoRow : OpenClaim := { program := "ytnelghpendfdmaagreatdoor", sum := "3fc049183c40b5511bb047fe2049886961a1ede30e31d100a74cec97add9ed40", func := "pendulum/pendulumlaw11.StepNames", spec := "stepNames", unfollowed := true, recurses := true, named := ["pendulum/alu.does"], apart := false, laid := [("pendulum/alu.does", laid_pendulum_alu_does)], narrowed := true }
def StepNamesUptoSaid : Prop := stepNamesUptoRow.holds Tryz.pinned (OpenSpec.upto stepNamesSpec)

/-- 'pendulumlaw11.StepReads', WHERE WHAT IT READS IS OF BULK AT MOST 1048576: true; the input reads as it did. -/
def stepReadsUptoRow : OpenClaim := { program := "ytnelghpendfdmaagreatdoor", sum := "3fc049183c40b5511bb047fe2049886961a1ede30e31d100a74cec97add9ed40", func := "pendulum/pendulumlaw11.StepReads", spec := "stepReads", unfollowed := true, recurses := true, named := ["pendulum/alu.does"], apart := false, laid := [("pendulum/alu.does", laid_pendulum_alu_does)], narrowed := true }
def StepReadsUptoSaid : Prop := stepReadsUptoRow.holds Tryz.pinned (OpenSpec.upto stepReadsSpec)

/-- 'pendulumlaw11.StepBlocks', WHERE WHAT IT READS IS OF BULK AT MOST 1048576: true; the input reads as it did. -/
def stepBlocksUptoRow : OpenClaim := { program := "ytnelghpendfdmaagreatdoor", sum := "3fc049183c40b5511bb047fe2049886961a1ede30e31d100a74cec97add9ed40", func := "pendulum/pendulumlaw11.StepBlocks", spec := "stepBlocks", unfollowed := true, recurses := true, named := ["pendulum/alu.does"], apart := false, laid := [("pendulum/alu.does", laid_pendulum_alu_does)], narrowed := true }
def StepBlocksUptoSaid : Prop := stepBlocksUptoRow.holds Tryz.pinned (OpenSpec.upto stepBlocksSpec)

/-- 'pendulumlaw11.StepHalts', WHERE WHAT IT READS IS OF BULK AT MOST 1048576: true; the input reads as it did. -/
def stepHaltsUptoRow : OpenClaim := { program := "ytnelghpendfdmaagreatdoor", sum := "3fc049183c40b5511bb047fe2049886961a1ede30e31d100a74cec97add9ed40", func := "pendulum/pendulumlaw11.StepHalts", spec := "stepHalts", unfollowed := true, recurses := true, named := ["pendulum/alu.does"], apart := false, laid := [("pendulum/alu.does", laid_pendulum_alu_does)], narrowed := true }
def StepHaltsUptoSaid : Prop := stepHaltsUptoRow.holds Tryz.pinned (OpenSpec.upto stepHaltsSpec)

/-- 'pendulumlaw12.LengthNames', WHERE WHAT IT READS IS OF BULK AT MOST 1048576: true; the input reads as it did. -/
def lengthNamesUptoRow : OpenClaim := { program := "ytnelghpendfdmaagreatdoor", sum := "3fc049183c40b5511bb047fe2049886961a1ede30e31d100a74cec97add9ed40", func := "pendulum/pendulumlaw12.LengthNames", spec := "lengthNames", unfollowed := true, recurses := true, named := ["pendulum/alu.does"], apart := false, laid := [("pendulum/alu.does", laid_pendulum_alu_does)], narrowed := true }
def LengthNamesUptoSaid : Prop := lengthNamesUptoRow.holds Tryz.pinned (OpenSpec.upto lengthNamesSpec)

end Rows
end Go.Proofs.YtnelghpendfdmaaGreatDoor
