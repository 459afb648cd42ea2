/-
  No cell of these rows narrows 'for every input' (looked for: loops, veiled, ifaces, maps, wideKeys, modest, calm, conditions, laid).
  DERIVED. THE GIVEN ROWS OF THIS SEAT. 7 by the template 'for every input the law returns true; each argument reads behind the call as it read before'; 0 by the template 'total and deterministic' (their statements: YthcokhnckbkecaaTotals.lean).
  GIVEN WITH THE SEED: the statements are not yours to turn. If you find one false, say at which input.
  Laid BY PROGRAM, IN A SANDBOX (cutbox-rows.mjs): the forced cells as the released guide's own fill.sh prints them over the translation 97164c5d8d372c2a… (all of the seat's roots in one cut). By AI agents, Wed Nov 11 2026. No macro, syntax, notation, axiom, sorry.
-/
import Derived.Test.YthcokhnckbkecaaChecked
import GoSem.Claim
import GoSem.ClaimJoined
import GoSem.ClaimMapViews
import Derived.JoinedTies
import Derived.KernelRfl
namespace Go.Proofs.Ythcokhnckbkecaa
/- THE CELL 'sum', in the pinned program and in every row, IS THE sha256 OF THE DUMP (.gsa) THAT YthcokhnckbkecaaProg.lean LOADS. Nothing in Lean hashes anything: it is a label: what it is worth is what the hold of that sum in a sandbox is worth. -/
noncomputable def Try.pinned : Pinned := { name := "ythcokhnckbkecaa", sum := "97164c5d8d372c2a7d88dc8c4115387049e3630002de2e6571e2b43f4766e6fb", checked := Try.checked }
namespace Rows
def none {H : Type} : Left H := { results := [], args := [] }

/-- 'pendulumlaw31.ToneHangs': WHATEVER THE INPUT: true; the input reads as it did. -/
def toneHangsSpec : ChangeSpec := { name := "toneHangs", fn := fun _ => fun
  | [d1, d2, d3, d4] => { results := [.lit (.bool true)], args := [d1, d2, d3, d4] }
  | _ => none }
def toneHangsRow : OpenClaim := { program := "ythcokhnckbkecaa", sum := "97164c5d8d372c2a7d88dc8c4115387049e3630002de2e6571e2b43f4766e6fb", func := "pendulum/pendulumlaw31.ToneHangs", spec := "toneHangs", unfollowed := true, recurses := true, apart := false }
def ToneHangsSaid : Prop := toneHangsRow.holds Try.pinned (OpenSpec.ofChange toneHangsSpec)

/-- ITS FALSE NEIGHBOUR: 'it returns false'. Refute it at one input. -/
def toneHangsWrong : ChangeSpec := { name := "toneHangs", fn := fun _ => fun
  | [d1, d2, d3, d4] => { results := [.lit (.bool false)], args := [d1, d2, d3, d4] }
  | _ => none }
def ToneHangsWrongFalsely : Prop := toneHangsRow.holds Try.pinned (OpenSpec.ofChange toneHangsWrong)

/-- 'pendulumlaw31.ToneNames': WHATEVER THE INPUT: true; the input reads as it did. -/
def toneNamesSpec : ChangeSpec := { name := "toneNames", fn := fun _ => fun
  | [] => { results := [.lit (.bool true)], args := [] }
  | _ => none }
def toneNamesRow : OpenClaim := { program := "ythcokhnckbkecaa", sum := "97164c5d8d372c2a7d88dc8c4115387049e3630002de2e6571e2b43f4766e6fb", func := "pendulum/pendulumlaw31.ToneNames", spec := "toneNames", unfollowed := true, recurses := true, apart := false }
def ToneNamesSaid : Prop := toneNamesRow.holds Try.pinned (OpenSpec.ofChange toneNamesSpec)

/-- ITS FALSE NEIGHBOUR: 'it returns false'. Refute it at one input. -/
def toneNamesWrong : ChangeSpec := { name := "toneNames", fn := fun _ => fun
  | [] => { results := [.lit (.bool false)], args := [] }
  | _ => none }
def ToneNamesWrongFalsely : Prop := toneNamesRow.holds Try.pinned (OpenSpec.ofChange toneNamesWrong)

/-- 'pendulumlaw31.ToneTurns': WHATEVER THE INPUT: true; the input reads as it did. -/
def toneTurnsSpec : ChangeSpec := { name := "toneTurns", fn := fun _ => fun
  | [d] => { results := [.lit (.bool true)], args := [d] }
  | _ => none }
def toneTurnsRow : OpenClaim := { program := "ythcokhnckbkecaa", sum := "97164c5d8d372c2a7d88dc8c4115387049e3630002de2e6571e2b43f4766e6fb", func := "pendulum/pendulumlaw31.ToneTurns", spec := "toneTurns", unfollowed := true, recurses := true, apart := false }
def ToneTurnsSaid : Prop := toneTurnsRow.holds Try.pinned (OpenSpec.ofChange toneTurnsSpec)

/-- ITS FALSE NEIGHBOUR: 'it returns false'. Refute it at one input. -/
def toneTurnsWrong : ChangeSpec := { name := "toneTurns", fn := fun _ => fun
  | [d] => { results := [.lit (.bool false)], args := [d] }
  | _ => none }
def ToneTurnsWrongFalsely : Prop := toneTurnsRow.holds Try.pinned (OpenSpec.ofChange toneTurnsWrong)

/-- 'pendulumlaw31.ToneCalls': WHATEVER THE INPUT: true; the input reads as it did. -/
def toneCallsSpec : ChangeSpec := { name := "toneCalls", fn := fun _ => fun
  | [d1, d2, d3, d4, d5, d6] => { results := [.lit (.bool true)], args := [d1, d2, d3, d4, d5, d6] }
  | _ => none }
def toneCallsRow : OpenClaim := { program := "ythcokhnckbkecaa", sum := "97164c5d8d372c2a7d88dc8c4115387049e3630002de2e6571e2b43f4766e6fb", func := "pendulum/pendulumlaw31.ToneCalls", spec := "toneCalls", unfollowed := true, recurses := true, apart := false }
def ToneCallsSaid : Prop := toneCallsRow.holds Try.pinned (OpenSpec.ofChange toneCallsSpec)

/-- ITS FALSE NEIGHBOUR: 'it returns false'. Refute it at one input. -/
def toneCallsWrong : ChangeSpec := { name := "toneCalls", fn := fun _ => fun
  | [d1, d2, d3, d4, d5, d6] => { results := [.lit (.bool false)], args := [d1, d2, d3, d4, d5, d6] }
  | _ => none }
def ToneCallsWrongFalsely : Prop := toneCallsRow.holds Try.pinned (OpenSpec.ofChange toneCallsWrong)

/-- 'pendulumlaw09.DecodeBack': WHATEVER THE INPUT: true; the input reads as it did. -/
def decodeBackSpec : ChangeSpec := { name := "decodeBack", fn := fun _ => fun
  | [d1, d2, d3] => { results := [.lit (.bool true)], args := [d1, d2, d3] }
  | _ => none }
def decodeBackRow : OpenClaim := { program := "ythcokhnckbkecaa", sum := "97164c5d8d372c2a7d88dc8c4115387049e3630002de2e6571e2b43f4766e6fb", func := "pendulum/pendulumlaw09.DecodeBack", spec := "decodeBack", unfollowed := true, recurses := true, apart := false }
def DecodeBackSaid : Prop := decodeBackRow.holds Try.pinned (OpenSpec.ofChange decodeBackSpec)

/-- ITS FALSE NEIGHBOUR: 'it returns false'. Refute it at one input. -/
def decodeBackWrong : ChangeSpec := { name := "decodeBack", fn := fun _ => fun
  | [d1, d2, d3] => { results := [.lit (.bool false)], args := [d1, d2, d3] }
  | _ => none }
def DecodeBackWrongFalsely : Prop := decodeBackRow.holds Try.pinned (OpenSpec.ofChange decodeBackWrong)

/-- 'pendulumlaw09.DecodeRows': WHATEVER THE INPUT: true; the input reads as it did. -/
def decodeRowsSpec : ChangeSpec := { name := "decodeRows", fn := fun _ => fun
  | [d1, d2] => { results := [.lit (.bool true)], args := [d1, d2] }
  | _ => none }
def decodeRowsRow : OpenClaim := { program := "ythcokhnckbkecaa", sum := "97164c5d8d372c2a7d88dc8c4115387049e3630002de2e6571e2b43f4766e6fb", func := "pendulum/pendulumlaw09.DecodeRows", spec := "decodeRows", unfollowed := true, recurses := true, apart := false }
def DecodeRowsSaid : Prop := decodeRowsRow.holds Try.pinned (OpenSpec.ofChange decodeRowsSpec)

/-- ITS FALSE NEIGHBOUR: 'it returns false'. Refute it at one input. -/
def decodeRowsWrong : ChangeSpec := { name := "decodeRows", fn := fun _ => fun
  | [d1, d2] => { results := [.lit (.bool false)], args := [d1, d2] }
  | _ => none }
def DecodeRowsWrongFalsely : Prop := decodeRowsRow.holds Try.pinned (OpenSpec.ofChange decodeRowsWrong)

/-- 'pendulumlaw09.DecodeNames': WHATEVER THE INPUT: true; the input reads as it did. -/
def decodeNamesSpec : ChangeSpec := { name := "decodeNames", fn := fun _ => fun
  | [] => { results := [.lit (.bool true)], args := [] }
  | _ => none }
def decodeNamesRow : OpenClaim := { program := "ythcokhnckbkecaa", sum := "97164c5d8d372c2a7d88dc8c4115387049e3630002de2e6571e2b43f4766e6fb", func := "pendulum/pendulumlaw09.DecodeNames", spec := "decodeNames", unfollowed := true, recurses := true, apart := false }
def DecodeNamesSaid : Prop := decodeNamesRow.holds Try.pinned (OpenSpec.ofChange decodeNamesSpec)

/-- ITS FALSE NEIGHBOUR: 'it returns false'. Refute it at one input. -/
def decodeNamesWrong : ChangeSpec := { name := "decodeNames", fn := fun _ => fun
  | [] => { results := [.lit (.bool false)], args := [] }
  | _ => none }
def DecodeNamesWrongFalsely : Prop := decodeNamesRow.holds Try.pinned (OpenSpec.ofChange decodeNamesWrong)

/- THE SECOND FORM. 'bulk': how many values and letters a reading holds, each counted each time it is reached (what is shared counts as often as it is met; a slice's spare places count too). A statement '..UptoSaid' is the law's where the arguments, and the package variables that the reading takes, are together of bulk at most 1048576: NARROWER than '..Said'. Prove '..Said' where nothing that the law and all that it calls make is longer than what came in: it says more and counts as full. Else prove '..UptoSaid'. A law counts once. -/
mutual
def uptoBulk {H : Type} : DataW H → Nat
  | .lit (.string bytes) => bytes.length + 1
  | .lit _ => 1
  | .nil => 1
  | .ptr d => uptoBulk d + 1
  | .slice elems spare => uptoBulkAll elems + uptoBulkAll spare + 1
  | .agg parts => uptoBulkAll parts + 1
  | .iface _ d => uptoBulk d + 1
  | .map entries => uptoBulkEntries entries + 1
  | .held _ => 1
def uptoBulkAll {H : Type} : List (DataW H) → Nat
  | [] => 0
  | d :: r => uptoBulk d + uptoBulkAll r
def uptoBulkEntries {H : Type} : List (Lit × DataW H) → Nat
  | [] => 0
  | x :: r => uptoBulkEntry x + uptoBulkEntries r
def uptoBulkEntry {H : Type} : Lit × DataW H → Nat
  | (.string bytes, d) => bytes.length + uptoBulk d + 1
  | (_, d) => uptoBulk d + 1
 end
def uptoSmall : (H : Type) → List (DataW H) → Bool := fun _ ds => decide (uptoBulkAll ds ≤ 1048576)
def OpenSpec.upto (s : _root_.Go.ChangeSpec) : _root_.Go.OpenSpec := { _root_.Go.OpenSpec.ofChange s with cond := some uptoSmall }

/-- 'pendulumlaw31.ToneHangs', WHERE WHAT IT READS IS OF BULK AT MOST 1048576: true; the input reads as it did. -/
def toneHangsUptoRow : OpenClaim := { program := "ythcokhnckbkecaa", sum := "97164c5d8d372c2a7d88dc8c4115387049e3630002de2e6571e2b43f4766e6fb", func := "pendulum/pendulumlaw31.ToneHangs", spec := "toneHangs", unfollowed := true, recurses := true, apart := false, narrowed := true }
def ToneHangsUptoSaid : Prop := toneHangsUptoRow.holds Try.pinned (OpenSpec.upto toneHangsSpec)

/-- 'pendulumlaw31.ToneNames', WHERE WHAT IT READS IS OF BULK AT MOST 1048576: true; the input reads as it did. -/
def toneNamesUptoRow : OpenClaim := { program := "ythcokhnckbkecaa", sum := "97164c5d8d372c2a7d88dc8c4115387049e3630002de2e6571e2b43f4766e6fb", func := "pendulum/pendulumlaw31.ToneNames", spec := "toneNames", unfollowed := true, recurses := true, apart := false, narrowed := true }
def ToneNamesUptoSaid : Prop := toneNamesUptoRow.holds Try.pinned (OpenSpec.upto toneNamesSpec)

/-- 'pendulumlaw31.ToneTurns', WHERE WHAT IT READS IS OF BULK AT MOST 1048576: true; the input reads as it did. -/
def toneTurnsUptoRow : OpenClaim := { program := "ythcokhnckbkecaa", sum := "97164c5d8d372c2a7d88dc8c4115387049e3630002de2e6571e2b43f4766e6fb", func := "pendulum/pendulumlaw31.ToneTurns", spec := "toneTurns", unfollowed := true, recurses := true, apart := false, narrowed := true }
def ToneTurnsUptoSaid : Prop := toneTurnsUptoRow.holds Try.pinned (OpenSpec.upto toneTurnsSpec)

/-- 'pendulumlaw31.ToneCalls', WHERE WHAT IT READS IS OF BULK AT MOST 1048576: true; the input reads as it did. -/
def toneCallsUptoRow : OpenClaim := { program := "ythcokhnckbkecaa", sum := "97164c5d8d372c2a7d88dc8c4115387049e3630002de2e6571e2b43f4766e6fb", func := "pendulum/pendulumlaw31.ToneCalls", spec := "toneCalls", unfollowed := true, recurses := true, apart := false, narrowed := true }
def ToneCallsUptoSaid : Prop := toneCallsUptoRow.holds Try.pinned (OpenSpec.upto toneCallsSpec)

/-- 'pendulumlaw09.DecodeBack', WHERE WHAT IT READS IS OF BULK AT MOST 1048576: true; the input reads as it did. -/
def decodeBackUptoRow : OpenClaim := { program := "ythcokhnckbkecaa", sum := "97164c5d8d372c2a7d88dc8c4115387049e3630002de2e6571e2b43f4766e6fb", func := "pendulum/pendulumlaw09.DecodeBack", spec := "decodeBack", unfollowed := true, recurses := true, apart := false, narrowed := true }
def DecodeBackUptoSaid : Prop := decodeBackUptoRow.holds Try.pinned (OpenSpec.upto decodeBackSpec)

/-- 'pendulumlaw09.DecodeRows', WHERE WHAT IT READS IS OF BULK AT MOST 1048576: true; the input reads as it did. -/
def decodeRowsUptoRow : OpenClaim := { program := "ythcokhnckbkecaa", sum := "97164c5d8d372c2a7d88dc8c4115387049e3630002de2e6571e2b43f4766e6fb", func := "pendulum/pendulumlaw09.DecodeRows", spec := "decodeRows", unfollowed := true, recurses := true, apart := false, narrowed := true }
def DecodeRowsUptoSaid : Prop := decodeRowsUptoRow.holds Try.pinned (OpenSpec.upto decodeRowsSpec)

/-- 'pendulumlaw09.DecodeNames', WHERE WHAT IT READS IS OF BULK AT MOST 1048576: true; the input reads as it did. -/
def decodeNamesUptoRow : OpenClaim := { program := "ythcokhnckbkecaa", sum := "97164c5d8d372c2a7d88dc8c4115387049e3630002de2e6571e2b43f4766e6fb", func := "pendulum/pendulumlaw09.DecodeNames", spec := "decodeNames", unfollowed := true, recurses := true, apart := false, narrowed := true }
def DecodeNamesUptoSaid : Prop := decodeNamesUptoRow.holds Try.pinned (OpenSpec.upto decodeNamesSpec)

end Rows
end Go.Proofs.Ythcokhnckbkecaa
