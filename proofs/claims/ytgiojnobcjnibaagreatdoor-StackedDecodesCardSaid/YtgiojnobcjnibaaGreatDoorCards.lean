/-
  DERIVED. GIVEN WITH THE SEED: THE CARDS: each row of YtgiojnobcjnibaaGreatDoorRows.lean that lists a variable, with what it lists TIED to the program's text (the seventh form; the later family's looks); each row that meets fmt, with fmt's text TOLD by the authors' own Lean function (tested against real Go, not proved from fmt's source: count such statements apart). THE CARD IS WHAT COUNTS. Prove the row's statement (the work); the ties are given (YtgiojnobcjnibaaGreatDoorTie.lean); close each card by the builder's one call (the guide's Derived/Test/ToyasCard.lean, 'card_holds'). Laid BY PROGRAM, IN A SANDBOX (cutbox-door.mjs). By AI agents, Wed Nov 11 2026. No macro, syntax, notation, axiom, sorry.
-/
import Derived.Test.YtgiojnobcjnibaaGreatDoorRows
import GoSem.ClaimSeven
namespace Go.Proofs.YtgiojnobcjnibaaGreatDoor
namespace Rows

/-- THE TIED CARD OF 'barscanlaw30.StackedPatterns'. -/
def stackedPatternsCard : Claim7 := { stood := { row := stackedPatternsRow, standIns := [], harness := (true, "f47a2210564e850397f9a63c0a3aa3b5ee7e06f8cf4ef7556a7c1f939625d8c7"), looks := true }, kinds := [], alts := [], laidByText := true, laidKinds := [.data, .data, .data], laidTests := true, laidLooks := .later }
def StackedPatternsCardSaid : Prop := Claim7.holds Tryz.pinned (.plain (OpenSpec.ofChange stackedPatternsSpec)) stackedPatternsCard

/-- THE TIED CARD OF 'barscanlaw30.StackedIndicators'. -/
def stackedIndicatorsCard : Claim7 := { stood := { row := stackedIndicatorsRow, standIns := [], harness := (true, "f47a2210564e850397f9a63c0a3aa3b5ee7e06f8cf4ef7556a7c1f939625d8c7"), looks := true }, kinds := [], alts := [], laidByText := true, laidKinds := [.data, .data, .data], laidTests := true, laidLooks := .later }
def StackedIndicatorsCardSaid : Prop := Claim7.holds Tryz.pinned (.plain (OpenSpec.ofChange stackedIndicatorsSpec)) stackedIndicatorsCard

/-- THE TIED CARD OF 'barscanlaw30.StackedEncodes'. -/
def stackedEncodesCard : Claim7 := { stood := { row := stackedEncodesRow, standIns := [], harness := (true, "f47a2210564e850397f9a63c0a3aa3b5ee7e06f8cf4ef7556a7c1f939625d8c7"), looks := true }, kinds := [], alts := [], laidByText := true, laidKinds := [.data, .data, .data], laidTests := true, laidLooks := .later }
def StackedEncodesCardSaid : Prop := Claim7.holds Tryz.pinned (.plain (OpenSpec.ofChange stackedEncodesSpec)) stackedEncodesCard

/-- THE TIED CARD OF 'barscanlaw30.StackedDecodes'. -/
def stackedDecodesCard : Claim7 := { stood := { row := stackedDecodesRow, standIns := [], harness := (true, "f47a2210564e850397f9a63c0a3aa3b5ee7e06f8cf4ef7556a7c1f939625d8c7"), looks := true }, kinds := [], alts := [], laidByText := true, laidKinds := [.data, .data, .data], laidTests := true, laidLooks := .later }
def StackedDecodesCardSaid : Prop := Claim7.holds Tryz.pinned (.plain (OpenSpec.ofChange stackedDecodesSpec)) stackedDecodesCard

/-- THE TIED CARD OF 'barscanlaw30.StackedInverse'. -/
def stackedInverseCard : Claim7 := { stood := { row := stackedInverseRow, standIns := [], harness := (true, "f47a2210564e850397f9a63c0a3aa3b5ee7e06f8cf4ef7556a7c1f939625d8c7"), looks := true }, kinds := [], alts := [], laidByText := true, laidKinds := [.data, .data, .data], laidTests := true, laidLooks := .later }
def StackedInverseCardSaid : Prop := Claim7.holds Tryz.pinned (.plain (OpenSpec.ofChange stackedInverseSpec)) stackedInverseCard

/-- THE TIED CARD OF 'barscanlaw30.StackedRestores'. -/
def stackedRestoresCard : Claim7 := { stood := { row := stackedRestoresRow, standIns := [], harness := (true, "f47a2210564e850397f9a63c0a3aa3b5ee7e06f8cf4ef7556a7c1f939625d8c7"), looks := true }, kinds := [], alts := [], laidByText := true, laidKinds := [.data, .data, .data], laidTests := true, laidLooks := .later }
def StackedRestoresCardSaid : Prop := Claim7.holds Tryz.pinned (.plain (OpenSpec.ofChange stackedRestoresSpec)) stackedRestoresCard

/-- THE SECOND FORM's CARD OF 'barscanlaw30.StackedPatterns'. -/
def stackedPatternsUptoCard : Claim7 := { stood := { row := stackedPatternsUptoRow, standIns := [], harness := (true, "f47a2210564e850397f9a63c0a3aa3b5ee7e06f8cf4ef7556a7c1f939625d8c7"), looks := true }, kinds := [], alts := [], laidByText := true, laidKinds := [.data, .data, .data], laidTests := true, laidLooks := .later }
def StackedPatternsUptoCardSaid : Prop := Claim7.holds Tryz.pinned (.plain (OpenSpec.upto stackedPatternsSpec)) stackedPatternsUptoCard

/-- THE SECOND FORM's CARD OF 'barscanlaw30.StackedIndicators'. -/
def stackedIndicatorsUptoCard : Claim7 := { stood := { row := stackedIndicatorsUptoRow, standIns := [], harness := (true, "f47a2210564e850397f9a63c0a3aa3b5ee7e06f8cf4ef7556a7c1f939625d8c7"), looks := true }, kinds := [], alts := [], laidByText := true, laidKinds := [.data, .data, .data], laidTests := true, laidLooks := .later }
def StackedIndicatorsUptoCardSaid : Prop := Claim7.holds Tryz.pinned (.plain (OpenSpec.upto stackedIndicatorsSpec)) stackedIndicatorsUptoCard

/-- THE SECOND FORM's CARD OF 'barscanlaw30.StackedEncodes'. -/
def stackedEncodesUptoCard : Claim7 := { stood := { row := stackedEncodesUptoRow, standIns := [], harness := (true, "f47a2210564e850397f9a63c0a3aa3b5ee7e06f8cf4ef7556a7c1f939625d8c7"), looks := true }, kinds := [], alts := [], laidByText := true, laidKinds := [.data, .data, .data], laidTests := true, laidLooks := .later }
def StackedEncodesUptoCardSaid : Prop := Claim7.holds Tryz.pinned (.plain (OpenSpec.upto stackedEncodesSpec)) stackedEncodesUptoCard

/-- THE SECOND FORM's CARD OF 'barscanlaw30.StackedDecodes'. -/
def stackedDecodesUptoCard : Claim7 := { stood := { row := stackedDecodesUptoRow, standIns := [], harness := (true, "f47a2210564e850397f9a63c0a3aa3b5ee7e06f8cf4ef7556a7c1f939625d8c7"), looks := true }, kinds := [], alts := [], laidByText := true, laidKinds := [.data, .data, .data], laidTests := true, laidLooks := .later }
def StackedDecodesUptoCardSaid : Prop := Claim7.holds Tryz.pinned (.plain (OpenSpec.upto stackedDecodesSpec)) stackedDecodesUptoCard

/-- THE SECOND FORM's CARD OF 'barscanlaw30.StackedInverse'. -/
def stackedInverseUptoCard : Claim7 := { stood := { row := stackedInverseUptoRow, standIns := [], harness := (true, "f47a2210564e850397f9a63c0a3aa3b5ee7e06f8cf4ef7556a7c1f939625d8c7"), looks := true }, kinds := [], alts := [], laidByText := true, laidKinds := [.data, .data, .data], laidTests := true, laidLooks := .later }
def StackedInverseUptoCardSaid : Prop := Claim7.holds Tryz.pinned (.plain (OpenSpec.upto stackedInverseSpec)) stackedInverseUptoCard

/-- THE SECOND FORM's CARD OF 'barscanlaw30.StackedRestores'. -/
def stackedRestoresUptoCard : Claim7 := { stood := { row := stackedRestoresUptoRow, standIns := [], harness := (true, "f47a2210564e850397f9a63c0a3aa3b5ee7e06f8cf4ef7556a7c1f939625d8c7"), looks := true }, kinds := [], alts := [], laidByText := true, laidKinds := [.data, .data, .data], laidTests := true, laidLooks := .later }
def StackedRestoresUptoCardSaid : Prop := Claim7.holds Tryz.pinned (.plain (OpenSpec.upto stackedRestoresSpec)) stackedRestoresUptoCard
end Rows
end Go.Proofs.YtgiojnobcjnibaaGreatDoor
