/-
  No cell of these rows narrows 'for every input' (looked for: loops, veiled, ifaces, maps, wideKeys, modest, calm, conditions, laid).
  DERIVED. THE GIVEN ROWS OF THIS SEAT. 16 by the template 'for every input the law returns true; each argument reads behind the call as it read before'; 0 by the template 'total and deterministic' (their statements: YtpmmneipfmbmlaaTotals.lean).
  GIVEN WITH THE SEED: the statements are not yours to turn. If you find one false, say at which input.
  Laid BY PROGRAM, IN A SANDBOX (cutbox-rows.mjs): the forced cells as the released guide's own fill.sh prints them over the translation 4fb1c013ec4beb2f… (all of the seat's roots in one cut). By AI agents, Wed Nov 11 2026. No macro, syntax, notation, axiom, sorry.
-/
import Derived.Test.YtpmmneipfmbmlaaChecked
import GoSem.Claim
import GoSem.ClaimJoined
import GoSem.ClaimMapViews
import Derived.JoinedTies
import Derived.KernelRfl
namespace Go.Proofs.Ytpmmneipfmbmlaa
/- THE CELL 'sum', in the pinned program and in every row, IS THE sha256 OF THE DUMP (.gsa) THAT YtpmmneipfmbmlaaProg.lean LOADS. Nothing in Lean hashes anything: it is a label: what it is worth is what the hold of that sum in a sandbox is worth. -/
noncomputable def Try.pinned : Pinned := { name := "ytpmmneipfmbmlaa", sum := "4fb1c013ec4beb2fc8384a806b82f583072364f7a2d15d37bd4d0d58342c3b26", checked := Try.checked }
namespace Rows
def none {H : Type} : Left H := { results := [], args := [] }

/-- 'pendulumlaw07.WideBytes': WHATEVER THE INPUT: true; the input reads as it did. -/
def wideBytesSpec : ChangeSpec := { name := "wideBytes", fn := fun _ => fun
  | [d1, d2, d3] => { results := [.lit (.bool true)], args := [d1, d2, d3] }
  | _ => none }
def wideBytesRow : OpenClaim := { program := "ytpmmneipfmbmlaa", sum := "4fb1c013ec4beb2fc8384a806b82f583072364f7a2d15d37bd4d0d58342c3b26", func := "pendulum/pendulumlaw07.WideBytes", spec := "wideBytes", apart := false }
def WideBytesSaid : Prop := wideBytesRow.holds Try.pinned (OpenSpec.ofChange wideBytesSpec)

/-- ITS FALSE NEIGHBOUR: 'it returns false'. Refute it at one input. -/
def wideBytesWrong : ChangeSpec := { name := "wideBytes", fn := fun _ => fun
  | [d1, d2, d3] => { results := [.lit (.bool false)], args := [d1, d2, d3] }
  | _ => none }
def WideBytesWrongFalsely : Prop := wideBytesRow.holds Try.pinned (OpenSpec.ofChange wideBytesWrong)

/-- 'pendulumlaw07.WideCalls': WHATEVER THE INPUT: true; the input reads as it did. -/
def wideCallsSpec : ChangeSpec := { name := "wideCalls", fn := fun _ => fun
  | [d1, d2, d3, d4] => { results := [.lit (.bool true)], args := [d1, d2, d3, d4] }
  | _ => none }
def wideCallsRow : OpenClaim := { program := "ytpmmneipfmbmlaa", sum := "4fb1c013ec4beb2fc8384a806b82f583072364f7a2d15d37bd4d0d58342c3b26", func := "pendulum/pendulumlaw07.WideCalls", spec := "wideCalls", apart := false }
def WideCallsSaid : Prop := wideCallsRow.holds Try.pinned (OpenSpec.ofChange wideCallsSpec)

/-- ITS FALSE NEIGHBOUR: 'it returns false'. Refute it at one input. -/
def wideCallsWrong : ChangeSpec := { name := "wideCalls", fn := fun _ => fun
  | [d1, d2, d3, d4] => { results := [.lit (.bool false)], args := [d1, d2, d3, d4] }
  | _ => none }
def WideCallsWrongFalsely : Prop := wideCallsRow.holds Try.pinned (OpenSpec.ofChange wideCallsWrong)

/-- 'pendulumlaw07.WideBack': WHATEVER THE INPUT: true; the input reads as it did. -/
def wideBackSpec : ChangeSpec := { name := "wideBack", fn := fun _ => fun
  | [d1, d2, d3, d4] => { results := [.lit (.bool true)], args := [d1, d2, d3, d4] }
  | _ => none }
def wideBackRow : OpenClaim := { program := "ytpmmneipfmbmlaa", sum := "4fb1c013ec4beb2fc8384a806b82f583072364f7a2d15d37bd4d0d58342c3b26", func := "pendulum/pendulumlaw07.WideBack", spec := "wideBack", apart := false }
def WideBackSaid : Prop := wideBackRow.holds Try.pinned (OpenSpec.ofChange wideBackSpec)

/-- ITS FALSE NEIGHBOUR: 'it returns false'. Refute it at one input. -/
def wideBackWrong : ChangeSpec := { name := "wideBack", fn := fun _ => fun
  | [d1, d2, d3, d4] => { results := [.lit (.bool false)], args := [d1, d2, d3, d4] }
  | _ => none }
def WideBackWrongFalsely : Prop := wideBackRow.holds Try.pinned (OpenSpec.ofChange wideBackWrong)

/-- 'pendulumlaw05.AluBack': WHATEVER THE INPUT: true; the input reads as it did. -/
def aluBackSpec : ChangeSpec := { name := "aluBack", fn := fun _ => fun
  | [d1, d2, d3] => { results := [.lit (.bool true)], args := [d1, d2, d3] }
  | _ => none }
def aluBackRow : OpenClaim := { program := "ytpmmneipfmbmlaa", sum := "4fb1c013ec4beb2fc8384a806b82f583072364f7a2d15d37bd4d0d58342c3b26", func := "pendulum/pendulumlaw05.AluBack", spec := "aluBack", apart := false }
def AluBackSaid : Prop := aluBackRow.holds Try.pinned (OpenSpec.ofChange aluBackSpec)

/-- ITS FALSE NEIGHBOUR: 'it returns false'. Refute it at one input. -/
def aluBackWrong : ChangeSpec := { name := "aluBack", fn := fun _ => fun
  | [d1, d2, d3] => { results := [.lit (.bool false)], args := [d1, d2, d3] }
  | _ => none }
def AluBackWrongFalsely : Prop := aluBackRow.holds Try.pinned (OpenSpec.ofChange aluBackWrong)

/-- 'pendulumlaw05.AluWords': WHATEVER THE INPUT: true; the input reads as it did. -/
def aluWordsSpec : ChangeSpec := { name := "aluWords", fn := fun _ => fun
  | [d1, d2, d3] => { results := [.lit (.bool true)], args := [d1, d2, d3] }
  | _ => none }
def aluWordsRow : OpenClaim := { program := "ytpmmneipfmbmlaa", sum := "4fb1c013ec4beb2fc8384a806b82f583072364f7a2d15d37bd4d0d58342c3b26", func := "pendulum/pendulumlaw05.AluWords", spec := "aluWords", apart := false }
def AluWordsSaid : Prop := aluWordsRow.holds Try.pinned (OpenSpec.ofChange aluWordsSpec)

/-- ITS FALSE NEIGHBOUR: 'it returns false'. Refute it at one input. -/
def aluWordsWrong : ChangeSpec := { name := "aluWords", fn := fun _ => fun
  | [d1, d2, d3] => { results := [.lit (.bool false)], args := [d1, d2, d3] }
  | _ => none }
def AluWordsWrongFalsely : Prop := aluWordsRow.holds Try.pinned (OpenSpec.ofChange aluWordsWrong)

/-- 'pendulumlaw07.WideNames': WHATEVER THE INPUT: true; the input reads as it did. -/
def wideNamesSpec : ChangeSpec := { name := "wideNames", fn := fun _ => fun
  | [] => { results := [.lit (.bool true)], args := [] }
  | _ => none }
def wideNamesRow : OpenClaim := { program := "ytpmmneipfmbmlaa", sum := "4fb1c013ec4beb2fc8384a806b82f583072364f7a2d15d37bd4d0d58342c3b26", func := "pendulum/pendulumlaw07.WideNames", spec := "wideNames", apart := false }
def WideNamesSaid : Prop := wideNamesRow.holds Try.pinned (OpenSpec.ofChange wideNamesSpec)

/-- ITS FALSE NEIGHBOUR: 'it returns false'. Refute it at one input. -/
def wideNamesWrong : ChangeSpec := { name := "wideNames", fn := fun _ => fun
  | [] => { results := [.lit (.bool false)], args := [] }
  | _ => none }
def WideNamesWrongFalsely : Prop := wideNamesRow.holds Try.pinned (OpenSpec.ofChange wideNamesWrong)

/-- 'pendulumlaw05.AluNames': WHATEVER THE INPUT: true; the input reads as it did. -/
def aluNamesSpec : ChangeSpec := { name := "aluNames", fn := fun _ => fun
  | [] => { results := [.lit (.bool true)], args := [] }
  | _ => none }
def aluNamesRow : OpenClaim := { program := "ytpmmneipfmbmlaa", sum := "4fb1c013ec4beb2fc8384a806b82f583072364f7a2d15d37bd4d0d58342c3b26", func := "pendulum/pendulumlaw05.AluNames", spec := "aluNames", apart := false }
def AluNamesSaid : Prop := aluNamesRow.holds Try.pinned (OpenSpec.ofChange aluNamesSpec)

/-- ITS FALSE NEIGHBOUR: 'it returns false'. Refute it at one input. -/
def aluNamesWrong : ChangeSpec := { name := "aluNames", fn := fun _ => fun
  | [] => { results := [.lit (.bool false)], args := [] }
  | _ => none }
def AluNamesWrongFalsely : Prop := aluNamesRow.holds Try.pinned (OpenSpec.ofChange aluNamesWrong)

/-- 'pendulumlaw05.AluLogic': WHATEVER THE INPUT: true; the input reads as it did. -/
def aluLogicSpec : ChangeSpec := { name := "aluLogic", fn := fun _ => fun
  | [d1, d2, d3] => { results := [.lit (.bool true)], args := [d1, d2, d3] }
  | _ => none }
def aluLogicRow : OpenClaim := { program := "ytpmmneipfmbmlaa", sum := "4fb1c013ec4beb2fc8384a806b82f583072364f7a2d15d37bd4d0d58342c3b26", func := "pendulum/pendulumlaw05.AluLogic", spec := "aluLogic", apart := false }
def AluLogicSaid : Prop := aluLogicRow.holds Try.pinned (OpenSpec.ofChange aluLogicSpec)

/-- ITS FALSE NEIGHBOUR: 'it returns false'. Refute it at one input. -/
def aluLogicWrong : ChangeSpec := { name := "aluLogic", fn := fun _ => fun
  | [d1, d2, d3] => { results := [.lit (.bool false)], args := [d1, d2, d3] }
  | _ => none }
def AluLogicWrongFalsely : Prop := aluLogicRow.holds Try.pinned (OpenSpec.ofChange aluLogicWrong)

/-- 'pendulumlaw06.ShiftTurns': WHATEVER THE INPUT: true; the input reads as it did. -/
def shiftTurnsSpec : ChangeSpec := { name := "shiftTurns", fn := fun _ => fun
  | [d1, d2] => { results := [.lit (.bool true)], args := [d1, d2] }
  | _ => none }
def shiftTurnsRow : OpenClaim := { program := "ytpmmneipfmbmlaa", sum := "4fb1c013ec4beb2fc8384a806b82f583072364f7a2d15d37bd4d0d58342c3b26", func := "pendulum/pendulumlaw06.ShiftTurns", spec := "shiftTurns", apart := false }
def ShiftTurnsSaid : Prop := shiftTurnsRow.holds Try.pinned (OpenSpec.ofChange shiftTurnsSpec)

/-- ITS FALSE NEIGHBOUR: 'it returns false'. Refute it at one input. -/
def shiftTurnsWrong : ChangeSpec := { name := "shiftTurns", fn := fun _ => fun
  | [d1, d2] => { results := [.lit (.bool false)], args := [d1, d2] }
  | _ => none }
def ShiftTurnsWrongFalsely : Prop := shiftTurnsRow.holds Try.pinned (OpenSpec.ofChange shiftTurnsWrong)

/-- 'pendulumlaw06.ShiftTens': WHATEVER THE INPUT: true; the input reads as it did. -/
def shiftTensSpec : ChangeSpec := { name := "shiftTens", fn := fun _ => fun
  | [d1, d2, d3] => { results := [.lit (.bool true)], args := [d1, d2, d3] }
  | _ => none }
def shiftTensRow : OpenClaim := { program := "ytpmmneipfmbmlaa", sum := "4fb1c013ec4beb2fc8384a806b82f583072364f7a2d15d37bd4d0d58342c3b26", func := "pendulum/pendulumlaw06.ShiftTens", spec := "shiftTens", apart := false }
def ShiftTensSaid : Prop := shiftTensRow.holds Try.pinned (OpenSpec.ofChange shiftTensSpec)

/-- ITS FALSE NEIGHBOUR: 'it returns false'. Refute it at one input. -/
def shiftTensWrong : ChangeSpec := { name := "shiftTens", fn := fun _ => fun
  | [d1, d2, d3] => { results := [.lit (.bool false)], args := [d1, d2, d3] }
  | _ => none }
def ShiftTensWrongFalsely : Prop := shiftTensRow.holds Try.pinned (OpenSpec.ofChange shiftTensWrong)

/-- 'pendulumlaw07.WideBlocks': WHATEVER THE INPUT: true; the input reads as it did. -/
def wideBlocksSpec : ChangeSpec := { name := "wideBlocks", fn := fun _ => fun
  | [d1, d2, d3, d4, d5] => { results := [.lit (.bool true)], args := [d1, d2, d3, d4, d5] }
  | _ => none }
def wideBlocksRow : OpenClaim := { program := "ytpmmneipfmbmlaa", sum := "4fb1c013ec4beb2fc8384a806b82f583072364f7a2d15d37bd4d0d58342c3b26", func := "pendulum/pendulumlaw07.WideBlocks", spec := "wideBlocks", apart := false }
def WideBlocksSaid : Prop := wideBlocksRow.holds Try.pinned (OpenSpec.ofChange wideBlocksSpec)

/-- ITS FALSE NEIGHBOUR: 'it returns false'. Refute it at one input. -/
def wideBlocksWrong : ChangeSpec := { name := "wideBlocks", fn := fun _ => fun
  | [d1, d2, d3, d4, d5] => { results := [.lit (.bool false)], args := [d1, d2, d3, d4, d5] }
  | _ => none }
def WideBlocksWrongFalsely : Prop := wideBlocksRow.holds Try.pinned (OpenSpec.ofChange wideBlocksWrong)

/-- 'pendulumlaw07.WideLeft': WHATEVER THE INPUT: true; the input reads as it did. -/
def wideLeftSpec : ChangeSpec := { name := "wideLeft", fn := fun _ => fun
  | [d1, d2, d3, d4] => { results := [.lit (.bool true)], args := [d1, d2, d3, d4] }
  | _ => none }
def wideLeftRow : OpenClaim := { program := "ytpmmneipfmbmlaa", sum := "4fb1c013ec4beb2fc8384a806b82f583072364f7a2d15d37bd4d0d58342c3b26", func := "pendulum/pendulumlaw07.WideLeft", spec := "wideLeft", apart := false }
def WideLeftSaid : Prop := wideLeftRow.holds Try.pinned (OpenSpec.ofChange wideLeftSpec)

/-- ITS FALSE NEIGHBOUR: 'it returns false'. Refute it at one input. -/
def wideLeftWrong : ChangeSpec := { name := "wideLeft", fn := fun _ => fun
  | [d1, d2, d3, d4] => { results := [.lit (.bool false)], args := [d1, d2, d3, d4] }
  | _ => none }
def WideLeftWrongFalsely : Prop := wideLeftRow.holds Try.pinned (OpenSpec.ofChange wideLeftWrong)

/-- 'pendulumlaw06.ShiftNames': WHATEVER THE INPUT: true; the input reads as it did. -/
def shiftNamesSpec : ChangeSpec := { name := "shiftNames", fn := fun _ => fun
  | [] => { results := [.lit (.bool true)], args := [] }
  | _ => none }
def shiftNamesRow : OpenClaim := { program := "ytpmmneipfmbmlaa", sum := "4fb1c013ec4beb2fc8384a806b82f583072364f7a2d15d37bd4d0d58342c3b26", func := "pendulum/pendulumlaw06.ShiftNames", spec := "shiftNames", apart := false }
def ShiftNamesSaid : Prop := shiftNamesRow.holds Try.pinned (OpenSpec.ofChange shiftNamesSpec)

/-- ITS FALSE NEIGHBOUR: 'it returns false'. Refute it at one input. -/
def shiftNamesWrong : ChangeSpec := { name := "shiftNames", fn := fun _ => fun
  | [] => { results := [.lit (.bool false)], args := [] }
  | _ => none }
def ShiftNamesWrongFalsely : Prop := shiftNamesRow.holds Try.pinned (OpenSpec.ofChange shiftNamesWrong)

/-- 'pendulumlaw06.ShiftCalls': WHATEVER THE INPUT: true; the input reads as it did. -/
def shiftCallsSpec : ChangeSpec := { name := "shiftCalls", fn := fun _ => fun
  | [d1, d2, d3, d4, d5] => { results := [.lit (.bool true)], args := [d1, d2, d3, d4, d5] }
  | _ => none }
def shiftCallsRow : OpenClaim := { program := "ytpmmneipfmbmlaa", sum := "4fb1c013ec4beb2fc8384a806b82f583072364f7a2d15d37bd4d0d58342c3b26", func := "pendulum/pendulumlaw06.ShiftCalls", spec := "shiftCalls", apart := false }
def ShiftCallsSaid : Prop := shiftCallsRow.holds Try.pinned (OpenSpec.ofChange shiftCallsSpec)

/-- ITS FALSE NEIGHBOUR: 'it returns false'. Refute it at one input. -/
def shiftCallsWrong : ChangeSpec := { name := "shiftCalls", fn := fun _ => fun
  | [d1, d2, d3, d4, d5] => { results := [.lit (.bool false)], args := [d1, d2, d3, d4, d5] }
  | _ => none }
def ShiftCallsWrongFalsely : Prop := shiftCallsRow.holds Try.pinned (OpenSpec.ofChange shiftCallsWrong)

/-- 'pendulumlaw06.ShiftOdd': WHATEVER THE INPUT: true; the input reads as it did. -/
def shiftOddSpec : ChangeSpec := { name := "shiftOdd", fn := fun _ => fun
  | [d1, d2, d3] => { results := [.lit (.bool true)], args := [d1, d2, d3] }
  | _ => none }
def shiftOddRow : OpenClaim := { program := "ytpmmneipfmbmlaa", sum := "4fb1c013ec4beb2fc8384a806b82f583072364f7a2d15d37bd4d0d58342c3b26", func := "pendulum/pendulumlaw06.ShiftOdd", spec := "shiftOdd", apart := false }
def ShiftOddSaid : Prop := shiftOddRow.holds Try.pinned (OpenSpec.ofChange shiftOddSpec)

/-- ITS FALSE NEIGHBOUR: 'it returns false'. Refute it at one input. -/
def shiftOddWrong : ChangeSpec := { name := "shiftOdd", fn := fun _ => fun
  | [d1, d2, d3] => { results := [.lit (.bool false)], args := [d1, d2, d3] }
  | _ => none }
def ShiftOddWrongFalsely : Prop := shiftOddRow.holds Try.pinned (OpenSpec.ofChange shiftOddWrong)

/-- 'pendulumlaw06.ShiftBits': WHATEVER THE INPUT: true; the input reads as it did. -/
def shiftBitsSpec : ChangeSpec := { name := "shiftBits", fn := fun _ => fun
  | [d1, d2, d3, d4] => { results := [.lit (.bool true)], args := [d1, d2, d3, d4] }
  | _ => none }
def shiftBitsRow : OpenClaim := { program := "ytpmmneipfmbmlaa", sum := "4fb1c013ec4beb2fc8384a806b82f583072364f7a2d15d37bd4d0d58342c3b26", func := "pendulum/pendulumlaw06.ShiftBits", spec := "shiftBits", apart := false }
def ShiftBitsSaid : Prop := shiftBitsRow.holds Try.pinned (OpenSpec.ofChange shiftBitsSpec)

/-- ITS FALSE NEIGHBOUR: 'it returns false'. Refute it at one input. -/
def shiftBitsWrong : ChangeSpec := { name := "shiftBits", fn := fun _ => fun
  | [d1, d2, d3, d4] => { results := [.lit (.bool false)], args := [d1, d2, d3, d4] }
  | _ => none }
def ShiftBitsWrongFalsely : Prop := shiftBitsRow.holds Try.pinned (OpenSpec.ofChange shiftBitsWrong)

/- THE SECOND FORM. 'bulk': how many values and letters a reading holds, each counted each time it is reached (what is shared counts as often as it is met; a slice's spare places count too). A statement '..UptoSaid' is the law's where the arguments, and the package variables that the reading takes, are together of bulk at most 1048576: NARROWER than '..Said'. Prove '..Said' where nothing that the law and all that it calls make is longer than what came in: it says more and counts as full. Else prove '..UptoSaid'. A law counts once. -/
mutual
def uptoBulk {H : Type} : DataW H → Nat
  | .lit (.string bytes) => bytes.length + 1
  | .lit _ => 1
  | .nil => 1
  | .ptr d => uptoBulk d + 1
  | .slice elems spare => uptoBulkAll elems + uptoBulkAll spare + 1
  | .agg parts => uptoBulkAll parts + 1
  | .iface _ d => uptoBulk d + 1
  | .map entries => uptoBulkEntries entries + 1
  | .held _ => 1
def uptoBulkAll {H : Type} : List (DataW H) → Nat
  | [] => 0
  | d :: r => uptoBulk d + uptoBulkAll r
def uptoBulkEntries {H : Type} : List (Lit × DataW H) → Nat
  | [] => 0
  | x :: r => uptoBulkEntry x + uptoBulkEntries r
def uptoBulkEntry {H : Type} : Lit × DataW H → Nat
  | (.string bytes, d) => bytes.length + uptoBulk d + 1
  | (_, d) => uptoBulk d + 1
 end
def uptoSmall : (H : Type) → List (DataW H) → Bool := fun _ ds => decide (uptoBulkAll ds ≤ 1048576)
def OpenSpec.upto (s : _root_.Go.ChangeSpec) : _root_.Go.OpenSpec := { _root_.Go.OpenSpec.ofChange s with cond := some uptoSmall }

/-- 'pendulumlaw07.WideBytes', WHERE WHAT IT READS IS OF BULK AT MOST 1048576: true; the input reads as it did. -/
def wideBytesUptoRow : OpenClaim := { program := "ytpmmneipfmbmlaa", sum := "4fb1c013ec4beb2fc8384a806b82f583072364f7a2d15d37bd4d0d58342c3b26", func := "pendulum/pendulumlaw07.WideBytes", spec := "wideBytes", apart := false, narrowed := true }
def WideBytesUptoSaid : Prop := wideBytesUptoRow.holds Try.pinned (OpenSpec.upto wideBytesSpec)

/-- 'pendulumlaw07.WideCalls', WHERE WHAT IT READS IS OF BULK AT MOST 1048576: true; the input reads as it did. -/
def wideCallsUptoRow : OpenClaim := { program := "ytpmmneipfmbmlaa", sum := "4fb1c013ec4beb2fc8384a806b82f583072364f7a2d15d37bd4d0d58342c3b26", func := "pendulum/pendulumlaw07.WideCalls", spec := "wideCalls", apart := false, narrowed := true }
def WideCallsUptoSaid : Prop := wideCallsUptoRow.holds Try.pinned (OpenSpec.upto wideCallsSpec)

/-- 'pendulumlaw07.WideBack', WHERE WHAT IT READS IS OF BULK AT MOST 1048576: true; the input reads as it did. -/
def wideBackUptoRow : OpenClaim := { program := "ytpmmneipfmbmlaa", sum := "4fb1c013ec4beb2fc8384a806b82f583072364f7a2d15d37bd4d0d58342c3b26", func := "pendulum/pendulumlaw07.WideBack", spec := "wideBack", apart := false, narrowed := true }
def WideBackUptoSaid : Prop := wideBackUptoRow.holds Try.pinned (OpenSpec.upto wideBackSpec)

/-- 'pendulumlaw05.AluBack', WHERE WHAT IT READS IS OF BULK AT MOST 1048576: true; the input reads as it did. -/
def aluBackUptoRow : OpenClaim := { program := "ytpmmneipfmbmlaa", sum := "4fb1c013ec4beb2fc8384a806b82f583072364f7a2d15d37bd4d0d58342c3b26", func := "pendulum/pendulumlaw05.AluBack", spec := "aluBack", apart := false, narrowed := true }
def AluBackUptoSaid : Prop := aluBackUptoRow.holds Try.pinned (OpenSpec.upto aluBackSpec)

/-- 'pendulumlaw05.AluWords', WHERE WHAT IT READS IS OF BULK AT MOST 1048576: true; the input reads as it did. -/
def aluWordsUptoRow : OpenClaim := { program := "ytpmmneipfmbmlaa", sum := "4fb1c013ec4beb2fc8384a806b82f583072364f7a2d15d37bd4d0d58342c3b26", func := "pendulum/pendulumlaw05.AluWords", spec := "aluWords", apart := false, narrowed := true }
def AluWordsUptoSaid : Prop := aluWordsUptoRow.holds Try.pinned (OpenSpec.upto aluWordsSpec)

/-- 'pendulumlaw07.WideNames', WHERE WHAT IT READS IS OF BULK AT MOST 1048576: true; the input reads as it did. -/
def wideNamesUptoRow : OpenClaim := { program := "ytpmmneipfmbmlaa", sum := "4fb1c013ec4beb2fc8384a806b82f583072364f7a2d15d37bd4d0d58342c3b26", func := "pendulum/pendulumlaw07.WideNames", spec := "wideNames", apart := false, narrowed := true }
def WideNamesUptoSaid : Prop := wideNamesUptoRow.holds Try.pinned (OpenSpec.upto wideNamesSpec)

/-- 'pendulumlaw05.AluNames', WHERE WHAT IT READS IS OF BULK AT MOST 1048576: true; the input reads as it did. -/
def aluNamesUptoRow : OpenClaim := { program := "ytpmmneipfmbmlaa", sum := "4fb1c013ec4beb2fc8384a806b82f583072364f7a2d15d37bd4d0d58342c3b26", func := "pendulum/pendulumlaw05.AluNames", spec := "aluNames", apart := false, narrowed := true }
def AluNamesUptoSaid : Prop := aluNamesUptoRow.holds Try.pinned (OpenSpec.upto aluNamesSpec)

/-- 'pendulumlaw05.AluLogic', WHERE WHAT IT READS IS OF BULK AT MOST 1048576: true; the input reads as it did. -/
def aluLogicUptoRow : OpenClaim := { program := "ytpmmneipfmbmlaa", sum := "4fb1c013ec4beb2fc8384a806b82f583072364f7a2d15d37bd4d0d58342c3b26", func := "pendulum/pendulumlaw05.AluLogic", spec := "aluLogic", apart := false, narrowed := true }
def AluLogicUptoSaid : Prop := aluLogicUptoRow.holds Try.pinned (OpenSpec.upto aluLogicSpec)

/-- 'pendulumlaw06.ShiftTurns', WHERE WHAT IT READS IS OF BULK AT MOST 1048576: true; the input reads as it did. -/
def shiftTurnsUptoRow : OpenClaim := { program := "ytpmmneipfmbmlaa", sum := "4fb1c013ec4beb2fc8384a806b82f583072364f7a2d15d37bd4d0d58342c3b26", func := "pendulum/pendulumlaw06.ShiftTurns", spec := "shiftTurns", apart := false, narrowed := true }
def ShiftTurnsUptoSaid : Prop := shiftTurnsUptoRow.holds Try.pinned (OpenSpec.upto shiftTurnsSpec)

/-- 'pendulumlaw06.ShiftTens', WHERE WHAT IT READS IS OF BULK AT MOST 1048576: true; the input reads as it did. -/
def shiftTensUptoRow : OpenClaim := { program := "ytpmmneipfmbmlaa", sum := "4fb1c013ec4beb2fc8384a806b82f583072364f7a2d15d37bd4d0d58342c3b26", func := "pendulum/pendulumlaw06.ShiftTens", spec := "shiftTens", apart := false, narrowed := true }
def ShiftTensUptoSaid : Prop := shiftTensUptoRow.holds Try.pinned (OpenSpec.upto shiftTensSpec)

/-- 'pendulumlaw07.WideBlocks', WHERE WHAT IT READS IS OF BULK AT MOST 1048576: true; the input reads as it did. -/
def wideBlocksUptoRow : OpenClaim := { program := "ytpmmneipfmbmlaa", sum := "4fb1c013ec4beb2fc8384a806b82f583072364f7a2d15d37bd4d0d58342c3b26", func := "pendulum/pendulumlaw07.WideBlocks", spec := "wideBlocks", apart := false, narrowed := true }
def WideBlocksUptoSaid : Prop := wideBlocksUptoRow.holds Try.pinned (OpenSpec.upto wideBlocksSpec)

/-- 'pendulumlaw07.WideLeft', WHERE WHAT IT READS IS OF BULK AT MOST 1048576: true; the input reads as it did. -/
def wideLeftUptoRow : OpenClaim := { program := "ytpmmneipfmbmlaa", sum := "4fb1c013ec4beb2fc8384a806b82f583072364f7a2d15d37bd4d0d58342c3b26", func := "pendulum/pendulumlaw07.WideLeft", spec := "wideLeft", apart := false, narrowed := true }
def WideLeftUptoSaid : Prop := wideLeftUptoRow.holds Try.pinned (OpenSpec.upto wideLeftSpec)

/-- 'pendulumlaw06.ShiftNames', WHERE WHAT IT READS IS OF BULK AT MOST 1048576: true; the input reads as it did. -/
def shiftNamesUptoRow : OpenClaim := { program := "ytpmmneipfmbmlaa", sum := "4fb1c013ec4beb2fc8384a806b82f583072364f7a2d15d37bd4d0d58342c3b26", func := "pendulum/pendulumlaw06.ShiftNames", spec := "shiftNames", apart := false, narrowed := true }
def ShiftNamesUptoSaid : Prop := shiftNamesUptoRow.holds Try.pinned (OpenSpec.upto shiftNamesSpec)

/-- 'pendulumlaw06.ShiftCalls', WHERE WHAT IT READS IS OF BULK AT MOST 1048576: true; the input reads as it did. -/
def shiftCallsUptoRow : OpenClaim := { program := "ytpmmneipfmbmlaa", sum := "4fb1c013ec4beb2fc8384a806b82f583072364f7a2d15d37bd4d0d58342c3b26", func := "pendulum/pendulumlaw06.ShiftCalls", spec := "shiftCalls", apart := false, narrowed := true }
def ShiftCallsUptoSaid : Prop := shiftCallsUptoRow.holds Try.pinned (OpenSpec.upto shiftCallsSpec)

/-- 'pendulumlaw06.ShiftOdd', WHERE WHAT IT READS IS OF BULK AT MOST 1048576: true; the input reads as it did. -/
def shiftOddUptoRow : OpenClaim := { program := "ytpmmneipfmbmlaa", sum := "4fb1c013ec4beb2fc8384a806b82f583072364f7a2d15d37bd4d0d58342c3b26", func := "pendulum/pendulumlaw06.ShiftOdd", spec := "shiftOdd", apart := false, narrowed := true }
def ShiftOddUptoSaid : Prop := shiftOddUptoRow.holds Try.pinned (OpenSpec.upto shiftOddSpec)

/-- 'pendulumlaw06.ShiftBits', WHERE WHAT IT READS IS OF BULK AT MOST 1048576: true; the input reads as it did. -/
def shiftBitsUptoRow : OpenClaim := { program := "ytpmmneipfmbmlaa", sum := "4fb1c013ec4beb2fc8384a806b82f583072364f7a2d15d37bd4d0d58342c3b26", func := "pendulum/pendulumlaw06.ShiftBits", spec := "shiftBits", apart := false, narrowed := true }
def ShiftBitsUptoSaid : Prop := shiftBitsUptoRow.holds Try.pinned (OpenSpec.upto shiftBitsSpec)

end Rows
end Go.Proofs.Ytpmmneipfmbmlaa
