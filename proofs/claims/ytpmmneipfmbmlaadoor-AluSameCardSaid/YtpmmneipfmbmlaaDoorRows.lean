/-
  NARROWER THAN 'FOR EVERY INPUT', by the rows' own cells (each row's printed sentence says how): AluCalls: laid · AluSame: laid.
  DERIVED. THE GIVEN ROWS OF THIS SEAT. 2 by the template 'for every input the law returns true; each argument reads behind the call as it read before'; 0 by the template 'total and deterministic' (their statements: YtpmmneipfmbmlaaDoorTotals.lean).
  GIVEN WITH THE SEED: the statements are not yours to turn. If you find one false, say at which input.
  Laid BY PROGRAM, IN A SANDBOX (cutbox-rows.mjs): the forced cells as the released guide's own fill.sh prints them over the translation 463052c0ee35a7f0… (all of the seat's roots in one cut). By AI agents, Wed Nov 11 2026. No macro, syntax, notation, axiom, sorry.
-/
import Derived.Test.YtpmmneipfmbmlaaDoorChecked
import GoSem.Claim
import GoSem.ClaimJoined
import GoSem.ClaimMapViews
import Derived.JoinedTies
import Derived.KernelRfl
namespace Go.Proofs.YtpmmneipfmbmlaaDoor
/- THE CELL 'sum', in the pinned program and in every row, IS THE sha256 OF THE DUMP (.gsa) THAT YtpmmneipfmbmlaaDoorProg.lean LOADS. Nothing in Lean hashes anything: it is a label: what it is worth is what the hold of that sum in a sandbox is worth. -/
noncomputable def Tryd.pinned : Pinned := { name := "ytpmmneipfmbmlaadoor", sum := "463052c0ee35a7f04d76e48aa1bf44829243e01f1d0ef9774d4f2d8ebb0c176b", checked := Tryd.checked }
namespace Rows
def none {H : Type} : Left H := { results := [], args := [] }

/- WHAT THE LISTED PACKAGE-LEVEL VARIABLES READ AS WHEN THE CALL BEGINS. Each datum BY PROGRAM (the guide's laid-datum.mjs) off the statement by which the dump's own 'gosem.cut.vars' lays the variable. In a bare row this is a premise. The card (YtpmmneipfmbmlaaDoorCards.lean) ties it to the program's text. -/
def laid_pendulum_alu_does {H : Type} : DataW H := .iface "func table" (.agg [.iface "func" (.lit (.string [112, 101, 110, 100, 117, 108, 117, 109, 47, 97, 108, 117, 46, 100, 111, 101, 115, 36, 49])), .iface "func" (.lit (.string [112, 101, 110, 100, 117, 108, 117, 109, 47, 97, 108, 117, 46, 100, 111, 101, 115, 36, 50])), .iface "func" (.lit (.string [112, 101, 110, 100, 117, 108, 117, 109, 47, 97, 108, 117, 46, 100, 111, 101, 115, 36, 51])), .iface "func" (.lit (.string [112, 101, 110, 100, 117, 108, 117, 109, 47, 97, 108, 117, 46, 100, 111, 101, 115, 36, 52])), .iface "func" (.lit (.string [112, 101, 110, 100, 117, 108, 117, 109, 47, 97, 108, 117, 46, 100, 111, 101, 115, 36, 53])), .iface "func" (.lit (.string [112, 101, 110, 100, 117, 108, 117, 109, 47, 97, 108, 117, 46, 100, 111, 101, 115, 36, 54])), .iface "func" (.lit (.string [112, 101, 110, 100, 117, 108, 117, 109, 47, 97, 108, 117, 46, 100, 111, 101, 115, 36, 55])), .iface "func" (.lit (.string [112, 101, 110, 100, 117, 108, 117, 109, 47, 97, 108, 117, 46, 100, 111, 101, 115, 36, 56]))])

/-- 'pendulumlaw05.AluCalls': WHATEVER THE INPUT: true; the input reads as it did. -/
def aluCallsSpec : ChangeSpec := { name := "aluCalls", fn := fun _ => fun
  | [d1, d2, d3, d4, d5] => { results := [.lit (.bool true)], args := [d1, d2, d3, d4, d5] }
  | _ => none }
def aluCallsRow : OpenClaim := { program := "ytpmmneipfmbmlaadoor", sum := "463052c0ee35a7f04d76e48aa1bf44829243e01f1d0ef9774d4f2d8ebb0c176b", func := "pendulum/pendulumlaw05.AluCalls", spec := "aluCalls", unfollowed := true, recurses := true, named := ["pendulum/alu.does"], apart := false, laid := [("pendulum/alu.does", laid_pendulum_alu_does)] }
def AluCallsSaid : Prop := aluCallsRow.holds Tryd.pinned (OpenSpec.ofChange aluCallsSpec)

/-- ITS FALSE NEIGHBOUR: 'it returns false'. Refute it at one input. -/
def aluCallsWrong : ChangeSpec := { name := "aluCalls", fn := fun _ => fun
  | [d1, d2, d3, d4, d5] => { results := [.lit (.bool false)], args := [d1, d2, d3, d4, d5] }
  | _ => none }
def AluCallsWrongFalsely : Prop := aluCallsRow.holds Tryd.pinned (OpenSpec.ofChange aluCallsWrong)

/-- 'pendulumlaw05.AluSame': WHATEVER THE INPUT: true; the input reads as it did. -/
def aluSameSpec : ChangeSpec := { name := "aluSame", fn := fun _ => fun
  | [d1, d2, d3, d4] => { results := [.lit (.bool true)], args := [d1, d2, d3, d4] }
  | _ => none }
def aluSameRow : OpenClaim := { program := "ytpmmneipfmbmlaadoor", sum := "463052c0ee35a7f04d76e48aa1bf44829243e01f1d0ef9774d4f2d8ebb0c176b", func := "pendulum/pendulumlaw05.AluSame", spec := "aluSame", unfollowed := true, recurses := true, named := ["pendulum/alu.does"], apart := false, laid := [("pendulum/alu.does", laid_pendulum_alu_does)] }
def AluSameSaid : Prop := aluSameRow.holds Tryd.pinned (OpenSpec.ofChange aluSameSpec)

/-- ITS FALSE NEIGHBOUR: 'it returns false'. Refute it at one input. -/
def aluSameWrong : ChangeSpec := { name := "aluSame", fn := fun _ => fun
  | [d1, d2, d3, d4] => { results := [.lit (.bool false)], args := [d1, d2, d3, d4] }
  | _ => none }
def AluSameWrongFalsely : Prop := aluSameRow.holds Tryd.pinned (OpenSpec.ofChange aluSameWrong)

/- THE SECOND FORM. 'bulk': how many values and letters a reading holds, each counted each time it is reached (what is shared counts as often as it is met; a slice's spare places count too). A statement '..UptoSaid' is the law's where the arguments, and the package variables that the reading takes, are together of bulk at most 1048576: NARROWER than '..Said'. Prove '..Said' where nothing that the law and all that it calls make is longer than what came in: it says more and counts as full. Else prove '..UptoSaid'. A law counts once. -/
mutual
def uptoBulk {H : Type} : DataW H → Nat
  | .lit (.string bytes) => bytes.length + 1
  | .lit _ => 1
  | .nil => 1
  | .ptr d => uptoBulk d + 1
  | .slice elems spare => uptoBulkAll elems + uptoBulkAll spare + 1
  | .agg parts => uptoBulkAll parts + 1
  | .iface _ d => uptoBulk d + 1
  | .map entries => uptoBulkEntries entries + 1
  | .held _ => 1
def uptoBulkAll {H : Type} : List (DataW H) → Nat
  | [] => 0
  | d :: r => uptoBulk d + uptoBulkAll r
def uptoBulkEntries {H : Type} : List (Lit × DataW H) → Nat
  | [] => 0
  | x :: r => uptoBulkEntry x + uptoBulkEntries r
def uptoBulkEntry {H : Type} : Lit × DataW H → Nat
  | (.string bytes, d) => bytes.length + uptoBulk d + 1
  | (_, d) => uptoBulk d + 1
 end
def uptoSmall : (H : Type) → List (DataW H) → Bool := fun _ ds => decide (uptoBulkAll ds ≤ 1048576)
def OpenSpec.upto (s : _root_.Go.ChangeSpec) : _root_.Go.OpenSpec := { _root_.Go.OpenSpec.ofChange s with cond := some uptoSmall }

/-- 'pendulumlaw05.AluCalls', WHERE WHAT IT READS IS OF BULK AT MOST 1048576: true; the input reads as it did. -/
def aluCallsUptoRow : OpenClaim := { program := "ytpmmneipfmbmlaadoor", sum := "463052c0ee35a7f04d76e48aa1bf44829243e01f1d0ef9774d4f2d8ebb0c176b", func := "pendulum/pendulumlaw05.AluCalls", spec := "aluCalls", unfollowed := true, recurses := true, named := ["pendulum/alu.does"], apart := false, laid := [("pendulum/alu.does", laid_pendulum_alu_does)], narrowed := true }
def AluCallsUptoSaid : Prop := aluCallsUptoRow.holds Tryd.pinned (OpenSpec.upto aluCallsSpec)

/-- 'pendulumlaw05.AluSame', WHERE WHAT IT READS IS OF BULK AT MOST 1048576: true; the input reads as it did. -/
def aluSameUptoRow : OpenClaim := { program := "ytpmmneipfmbmlaadoor", sum := "463052c0ee35a7f04d76e48aa1bf44829243e01f1d0ef9774d4f2d8ebb0c176b", func := "pendulum/pendulumlaw05.AluSame", spec := "aluSame", unfollowed := true, recurses := true, named := ["pendulum/alu.does"], apart := false, laid := [("pendulum/alu.does", laid_pendulum_alu_does)], narrowed := true }
def AluSameUptoSaid : Prop := aluSameUptoRow.holds Tryd.pinned (OpenSpec.upto aluSameSpec)

end Rows
end Go.Proofs.YtpmmneipfmbmlaaDoor
