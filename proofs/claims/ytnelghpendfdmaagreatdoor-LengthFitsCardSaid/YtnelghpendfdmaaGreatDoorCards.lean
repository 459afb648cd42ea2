/-
  DERIVED. GIVEN WITH THE SEED: THE CARDS: each row of YtnelghpendfdmaaGreatDoorRows.lean that lists a variable, with what it lists TIED to the program's text (the seventh form; the later family's looks); each row that meets fmt, with fmt's text TOLD by the authors' own Lean function (tested against real Go, not proved from fmt's source: count such statements apart). THE CARD IS WHAT COUNTS. Prove the row's statement (the work); the ties are given (YtnelghpendfdmaaGreatDoorTie.lean); close each card by the builder's one call (the guide's Derived/Test/ToyasCard.lean, 'card_holds'). Laid BY PROGRAM, IN A SANDBOX (cutbox-door.mjs). By AI agents, Wed Nov 11 2026. No macro, syntax, notation, axiom, sorry.
-/
import Derived.Test.YtnelghpendfdmaaGreatDoorRows
import GoSem.ClaimSeven
namespace Go.Proofs.YtnelghpendfdmaaGreatDoor
namespace Rows

/-- THE TIED CARD OF 'pendulumlaw12.LengthFits'. -/
def lengthFitsCard : Claim7 := { stood := { row := lengthFitsRow, standIns := [], harness := (true, "2f76b747666b15379de543cd381c2016fd80ceb578a8c5130f7ce0ef26f6543b"), looks := true }, kinds := [], alts := [], laidByText := true, laidKinds := [.funcs], laidTests := true, laidLooks := .later }
def LengthFitsCardSaid : Prop := Claim7.holds Tryz.pinned (.plain (OpenSpec.ofChange lengthFitsSpec)) lengthFitsCard

/-- THE TIED CARD OF 'pendulumlaw12.FlatNil'. -/
def flatNilCard : Claim7 := { stood := { row := flatNilRow, standIns := [], harness := (true, "2f76b747666b15379de543cd381c2016fd80ceb578a8c5130f7ce0ef26f6543b"), looks := true }, kinds := [], alts := [], laidByText := true, laidKinds := [.funcs], laidTests := true, laidLooks := .later }
def FlatNilCardSaid : Prop := Claim7.holds Tryz.pinned (.plain (OpenSpec.ofChange flatNilSpec)) flatNilCard

/-- THE TIED CARD OF 'pendulumlaw11.StepNames'. -/
def stepNamesCard : Claim7 := { stood := { row := stepNamesRow, standIns := [], harness := (true, "2f76b747666b15379de543cd381c2016fd80ceb578a8c5130f7ce0ef26f6543b"), looks := true }, kinds := [], alts := [], laidByText := true, laidKinds := [.funcs], laidTests := true, laidLooks := .later }
def StepNamesCardSaid : Prop := Claim7.holds Tryz.pinned (.plain (OpenSpec.ofChange stepNamesSpec)) stepNamesCard

/-- THE TIED CARD OF 'pendulumlaw11.StepReads'. -/
def stepReadsCard : Claim7 := { stood := { row := stepReadsRow, standIns := [], harness := (true, "2f76b747666b15379de543cd381c2016fd80ceb578a8c5130f7ce0ef26f6543b"), looks := true }, kinds := [], alts := [], laidByText := true, laidKinds := [.funcs], laidTests := true, laidLooks := .later }
def StepReadsCardSaid : Prop := Claim7.holds Tryz.pinned (.plain (OpenSpec.ofChange stepReadsSpec)) stepReadsCard

/-- THE TIED CARD OF 'pendulumlaw11.StepBlocks'. -/
def stepBlocksCard : Claim7 := { stood := { row := stepBlocksRow, standIns := [], harness := (true, "2f76b747666b15379de543cd381c2016fd80ceb578a8c5130f7ce0ef26f6543b"), looks := true }, kinds := [], alts := [], laidByText := true, laidKinds := [.funcs], laidTests := true, laidLooks := .later }
def StepBlocksCardSaid : Prop := Claim7.holds Tryz.pinned (.plain (OpenSpec.ofChange stepBlocksSpec)) stepBlocksCard

/-- THE TIED CARD OF 'pendulumlaw11.StepHalts'. -/
def stepHaltsCard : Claim7 := { stood := { row := stepHaltsRow, standIns := [], harness := (true, "2f76b747666b15379de543cd381c2016fd80ceb578a8c5130f7ce0ef26f6543b"), looks := true }, kinds := [], alts := [], laidByText := true, laidKinds := [.funcs], laidTests := true, laidLooks := .later }
def StepHaltsCardSaid : Prop := Claim7.holds Tryz.pinned (.plain (OpenSpec.ofChange stepHaltsSpec)) stepHaltsCard

/-- THE TIED CARD OF 'pendulumlaw12.LengthNames'. -/
def lengthNamesCard : Claim7 := { stood := { row := lengthNamesRow, standIns := [], harness := (true, "2f76b747666b15379de543cd381c2016fd80ceb578a8c5130f7ce0ef26f6543b"), looks := true }, kinds := [], alts := [], laidByText := true, laidKinds := [.funcs], laidTests := true, laidLooks := .later }
def LengthNamesCardSaid : Prop := Claim7.holds Tryz.pinned (.plain (OpenSpec.ofChange lengthNamesSpec)) lengthNamesCard

/-- THE SECOND FORM's CARD OF 'pendulumlaw12.LengthFits'. -/
def lengthFitsUptoCard : Claim7 := { stood := { row := lengthFitsUptoRow, standIns := [], harness := (true, "2f76b747666b15379de543cd381c2016fd80ceb578a8c5130f7ce0ef26f6543b"), looks := true }, kinds := [], alts := [], laidByText := true, laidKinds := [.funcs], laidTests := true, laidLooks := .later }
def LengthFitsUptoCardSaid : Prop := Claim7.holds Tryz.pinned (.plain (OpenSpec.upto lengthFitsSpec)) lengthFitsUptoCard

/-- THE SECOND FORM's CARD OF 'pendulumlaw12.FlatNil'. -/
def flatNilUptoCard : Claim7 := { stood := { row := flatNilUptoRow, standIns := [], harness := (true, "2f76b747666b15379de543cd381c2016fd80ceb578a8c5130f7ce0ef26f6543b"), looks := true }, kinds := [], alts := [], laidByText := true, laidKinds := [.funcs], laidTests := true, laidLooks := .later }
def FlatNilUptoCardSaid : Prop := Claim7.holds Tryz.pinned (.plain (OpenSpec.upto flatNilSpec)) flatNilUptoCard

/-- THE SECOND FORM's CARD OF 'pendulumlaw11.StepNames'. -/
def stepNamesUptoCard : Claim7 := { stood := { row := stepNamesUptoRow, standIns := [], harness := (true, "2f76b747666b15379de543cd381c2016fd80ceb578a8c5130f7ce0ef26f6543b"), looks := true }, kinds := [], alts := [], laidByText := true, laidKinds := [.funcs], laidTests := true, laidLooks := .later }
def StepNamesUptoCardSaid : Prop := Claim7.holds Tryz.pinned (.plain (OpenSpec.upto stepNamesSpec)) stepNamesUptoCard

/-- THE SECOND FORM's CARD OF 'pendulumlaw11.StepReads'. -/
def stepReadsUptoCard : Claim7 := { stood := { row := stepReadsUptoRow, standIns := [], harness := (true, "2f76b747666b15379de543cd381c2016fd80ceb578a8c5130f7ce0ef26f6543b"), looks := true }, kinds := [], alts := [], laidByText := true, laidKinds := [.funcs], laidTests := true, laidLooks := .later }
def StepReadsUptoCardSaid : Prop := Claim7.holds Tryz.pinned (.plain (OpenSpec.upto stepReadsSpec)) stepReadsUptoCard

/-- THE SECOND FORM's CARD OF 'pendulumlaw11.StepBlocks'. -/
def stepBlocksUptoCard : Claim7 := { stood := { row := stepBlocksUptoRow, standIns := [], harness := (true, "2f76b747666b15379de543cd381c2016fd80ceb578a8c5130f7ce0ef26f6543b"), looks := true }, kinds := [], alts := [], laidByText := true, laidKinds := [.funcs], laidTests := true, laidLooks := .later }
def StepBlocksUptoCardSaid : Prop := Claim7.holds Tryz.pinned (.plain (OpenSpec.upto stepBlocksSpec)) stepBlocksUptoCard

/-- THE SECOND FORM's CARD OF 'pendulumlaw11.StepHalts'. -/
def stepHaltsUptoCard : Claim7 := { stood := { row := stepHaltsUptoRow, standIns := [], harness := (true, "2f76b747666b15379de543cd381c2016fd80ceb578a8c5130f7ce0ef26f6543b"), looks := true }, kinds := [], alts := [], laidByText := true, laidKinds := [.funcs], laidTests := true, laidLooks := .later }
def StepHaltsUptoCardSaid : Prop := Claim7.holds Tryz.pinned (.plain (OpenSpec.upto stepHaltsSpec)) stepHaltsUptoCard

/-- THE SECOND FORM's CARD OF 'pendulumlaw12.LengthNames'. -/
def lengthNamesUptoCard : Claim7 := { stood := { row := lengthNamesUptoRow, standIns := [], harness := (true, "2f76b747666b15379de543cd381c2016fd80ceb578a8c5130f7ce0ef26f6543b"), looks := true }, kinds := [], alts := [], laidByText := true, laidKinds := [.funcs], laidTests := true, laidLooks := .later }
def LengthNamesUptoCardSaid : Prop := Claim7.holds Tryz.pinned (.plain (OpenSpec.upto lengthNamesSpec)) lengthNamesUptoCard
end Rows
end Go.Proofs.YtnelghpendfdmaaGreatDoor
