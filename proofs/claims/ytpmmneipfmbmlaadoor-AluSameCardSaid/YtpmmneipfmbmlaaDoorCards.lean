/-
  DERIVED. GIVEN WITH THE SEED: THE CARDS: each row of YtpmmneipfmbmlaaDoorRows.lean that lists a variable, with what it lists TIED to the program's text (the seventh form; the later family's looks); each row that meets fmt, with fmt's text TOLD by the authors' own Lean function (tested against real Go, not proved from fmt's source: count such statements apart). THE CARD IS WHAT COUNTS. Prove the row's statement (the work); the ties are given (YtpmmneipfmbmlaaDoorTie.lean); close each card by the builder's one call (the guide's Derived/Test/ToyasCard.lean, 'card_holds'). Laid BY PROGRAM, IN A SANDBOX (cutbox-door.mjs). By AI agents, Wed Nov 11 2026. No macro, syntax, notation, axiom, sorry.
-/
import Derived.Test.YtpmmneipfmbmlaaDoorRows
import GoSem.ClaimSeven
namespace Go.Proofs.YtpmmneipfmbmlaaDoor
namespace Rows

/-- THE TIED CARD OF 'pendulumlaw05.AluCalls'. -/
def aluCallsCard : Claim7 := { stood := { row := aluCallsRow, standIns := [], harness := (true, "1a1ab1b604f713814d3fe9cbff00d9267e4205d967c2c1314fe25e26602522c8"), looks := false }, kinds := [], alts := [], laidByText := true, laidKinds := [.funcs], laidTests := true, laidLooks := .later }
def AluCallsCardSaid : Prop := Claim7.holds Tryd.pinned (.plain (OpenSpec.ofChange aluCallsSpec)) aluCallsCard

/-- THE TIED CARD OF 'pendulumlaw05.AluSame'. -/
def aluSameCard : Claim7 := { stood := { row := aluSameRow, standIns := [], harness := (true, "1a1ab1b604f713814d3fe9cbff00d9267e4205d967c2c1314fe25e26602522c8"), looks := false }, kinds := [], alts := [], laidByText := true, laidKinds := [.funcs], laidTests := true, laidLooks := .later }
def AluSameCardSaid : Prop := Claim7.holds Tryd.pinned (.plain (OpenSpec.ofChange aluSameSpec)) aluSameCard

/-- THE SECOND FORM's CARD OF 'pendulumlaw05.AluCalls'. -/
def aluCallsUptoCard : Claim7 := { stood := { row := aluCallsUptoRow, standIns := [], harness := (true, "1a1ab1b604f713814d3fe9cbff00d9267e4205d967c2c1314fe25e26602522c8"), looks := false }, kinds := [], alts := [], laidByText := true, laidKinds := [.funcs], laidTests := true, laidLooks := .later }
def AluCallsUptoCardSaid : Prop := Claim7.holds Tryd.pinned (.plain (OpenSpec.upto aluCallsSpec)) aluCallsUptoCard

/-- THE SECOND FORM's CARD OF 'pendulumlaw05.AluSame'. -/
def aluSameUptoCard : Claim7 := { stood := { row := aluSameUptoRow, standIns := [], harness := (true, "1a1ab1b604f713814d3fe9cbff00d9267e4205d967c2c1314fe25e26602522c8"), looks := false }, kinds := [], alts := [], laidByText := true, laidKinds := [.funcs], laidTests := true, laidLooks := .later }
def AluSameUptoCardSaid : Prop := Claim7.holds Tryd.pinned (.plain (OpenSpec.upto aluSameSpec)) aluSameUptoCard
end Rows
end Go.Proofs.YtpmmneipfmbmlaaDoor
