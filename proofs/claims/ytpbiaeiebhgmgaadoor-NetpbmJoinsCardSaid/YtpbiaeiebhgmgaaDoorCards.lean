/-
  DERIVED. GIVEN WITH THE SEED: THE CARDS: each row of YtpbiaeiebhgmgaaDoorRows.lean that lists a variable, with what it lists TIED to the program's text (the seventh form; the later family's looks); each row that meets fmt, with fmt's text TOLD by the authors' own Lean function (tested against real Go, not proved from fmt's source: count such statements apart). THE CARD IS WHAT COUNTS. Prove the row's statement (the work); the ties are given (YtpbiaeiebhgmgaaDoorTie.lean); close each card by the builder's one call (the guide's Derived/Test/ToyasCard.lean, 'card_holds'). Laid BY PROGRAM, IN A SANDBOX (cutbox-door.mjs). By AI agents, Wed Nov 11 2026. No macro, syntax, notation, axiom, sorry.
-/
import Derived.Test.YtpbiaeiebhgmgaaDoorRows
import GoSem.ClaimSeven
namespace Go.Proofs.YtpbiaeiebhgmgaaDoor
namespace Rows

/-- THE TIED CARD OF 'barscanlaw32.NetpbmWrites'. -/
def netpbmWritesCard : Claim7 := { stood := { row := netpbmWritesRow, standIns := [], harness := (true, "098cb9d1ecdc520c87ba2f53174aea76b1616d3f1ad2fe01aae1017ed4452265"), looks := true }, kinds := [], alts := [], laidByText := true, laidKinds := [.data, .data, .data], laidTests := true, laidLooks := .later }
def NetpbmWritesCardSaid : Prop := Claim7.holds Tryd.pinned (.plain (OpenSpec.ofChange netpbmWritesSpec)) netpbmWritesCard

/-- THE TIED CARD OF 'barscanlaw32.NetpbmRoundTrip'. -/
def netpbmRoundTripCard : Claim7 := { stood := { row := netpbmRoundTripRow, standIns := [], harness := (true, "098cb9d1ecdc520c87ba2f53174aea76b1616d3f1ad2fe01aae1017ed4452265"), looks := true }, kinds := [], alts := [], laidByText := true, laidKinds := [.data, .data, .data], laidTests := true, laidLooks := .later }
def NetpbmRoundTripCardSaid : Prop := Claim7.holds Tryd.pinned (.plain (OpenSpec.ofChange netpbmRoundTripSpec)) netpbmRoundTripCard

/-- THE TIED CARD OF 'barscanlaw32.NetpbmCuts'. -/
def netpbmCutsCard : Claim7 := { stood := { row := netpbmCutsRow, standIns := [], harness := (true, "098cb9d1ecdc520c87ba2f53174aea76b1616d3f1ad2fe01aae1017ed4452265"), looks := true }, kinds := [], alts := [], laidByText := true, laidKinds := [.data, .data, .data], laidTests := true, laidLooks := .later }
def NetpbmCutsCardSaid : Prop := Claim7.holds Tryd.pinned (.plain (OpenSpec.ofChange netpbmCutsSpec)) netpbmCutsCard

/-- THE TIED CARD OF 'barscanlaw32.NetpbmComments'. -/
def netpbmCommentsCard : Claim7 := { stood := { row := netpbmCommentsRow, standIns := [], harness := (true, "098cb9d1ecdc520c87ba2f53174aea76b1616d3f1ad2fe01aae1017ed4452265"), looks := true }, kinds := [], alts := [], laidByText := true, laidKinds := [.data, .data, .data], laidTests := true, laidLooks := .later }
def NetpbmCommentsCardSaid : Prop := Claim7.holds Tryd.pinned (.plain (OpenSpec.ofChange netpbmCommentsSpec)) netpbmCommentsCard

/-- THE TIED CARD OF 'barscanlaw32.NetpbmSeveral'. -/
def netpbmSeveralCard : Claim7 := { stood := { row := netpbmSeveralRow, standIns := [], harness := (true, "098cb9d1ecdc520c87ba2f53174aea76b1616d3f1ad2fe01aae1017ed4452265"), looks := true }, kinds := [], alts := [], laidByText := true, laidKinds := [.data, .data, .data], laidTests := true, laidLooks := .later }
def NetpbmSeveralCardSaid : Prop := Claim7.holds Tryd.pinned (.plain (OpenSpec.ofChange netpbmSeveralSpec)) netpbmSeveralCard

/-- THE TIED CARD OF 'barscanlaw32.NetpbmJoins'. -/
def netpbmJoinsCard : Claim7 := { stood := { row := netpbmJoinsRow, standIns := [], harness := (true, "098cb9d1ecdc520c87ba2f53174aea76b1616d3f1ad2fe01aae1017ed4452265"), looks := true }, kinds := [], alts := [], laidByText := true, laidKinds := [.data, .data, .data], laidTests := true, laidLooks := .later }
def NetpbmJoinsCardSaid : Prop := Claim7.holds Tryd.pinned (.plain (OpenSpec.ofChange netpbmJoinsSpec)) netpbmJoinsCard

/-- THE SECOND FORM's CARD OF 'barscanlaw32.NetpbmWrites'. -/
def netpbmWritesUptoCard : Claim7 := { stood := { row := netpbmWritesUptoRow, standIns := [], harness := (true, "098cb9d1ecdc520c87ba2f53174aea76b1616d3f1ad2fe01aae1017ed4452265"), looks := true }, kinds := [], alts := [], laidByText := true, laidKinds := [.data, .data, .data], laidTests := true, laidLooks := .later }
def NetpbmWritesUptoCardSaid : Prop := Claim7.holds Tryd.pinned (.plain (OpenSpec.upto netpbmWritesSpec)) netpbmWritesUptoCard

/-- THE SECOND FORM's CARD OF 'barscanlaw32.NetpbmRoundTrip'. -/
def netpbmRoundTripUptoCard : Claim7 := { stood := { row := netpbmRoundTripUptoRow, standIns := [], harness := (true, "098cb9d1ecdc520c87ba2f53174aea76b1616d3f1ad2fe01aae1017ed4452265"), looks := true }, kinds := [], alts := [], laidByText := true, laidKinds := [.data, .data, .data], laidTests := true, laidLooks := .later }
def NetpbmRoundTripUptoCardSaid : Prop := Claim7.holds Tryd.pinned (.plain (OpenSpec.upto netpbmRoundTripSpec)) netpbmRoundTripUptoCard

/-- THE SECOND FORM's CARD OF 'barscanlaw32.NetpbmCuts'. -/
def netpbmCutsUptoCard : Claim7 := { stood := { row := netpbmCutsUptoRow, standIns := [], harness := (true, "098cb9d1ecdc520c87ba2f53174aea76b1616d3f1ad2fe01aae1017ed4452265"), looks := true }, kinds := [], alts := [], laidByText := true, laidKinds := [.data, .data, .data], laidTests := true, laidLooks := .later }
def NetpbmCutsUptoCardSaid : Prop := Claim7.holds Tryd.pinned (.plain (OpenSpec.upto netpbmCutsSpec)) netpbmCutsUptoCard

/-- THE SECOND FORM's CARD OF 'barscanlaw32.NetpbmComments'. -/
def netpbmCommentsUptoCard : Claim7 := { stood := { row := netpbmCommentsUptoRow, standIns := [], harness := (true, "098cb9d1ecdc520c87ba2f53174aea76b1616d3f1ad2fe01aae1017ed4452265"), looks := true }, kinds := [], alts := [], laidByText := true, laidKinds := [.data, .data, .data], laidTests := true, laidLooks := .later }
def NetpbmCommentsUptoCardSaid : Prop := Claim7.holds Tryd.pinned (.plain (OpenSpec.upto netpbmCommentsSpec)) netpbmCommentsUptoCard

/-- THE SECOND FORM's CARD OF 'barscanlaw32.NetpbmSeveral'. -/
def netpbmSeveralUptoCard : Claim7 := { stood := { row := netpbmSeveralUptoRow, standIns := [], harness := (true, "098cb9d1ecdc520c87ba2f53174aea76b1616d3f1ad2fe01aae1017ed4452265"), looks := true }, kinds := [], alts := [], laidByText := true, laidKinds := [.data, .data, .data], laidTests := true, laidLooks := .later }
def NetpbmSeveralUptoCardSaid : Prop := Claim7.holds Tryd.pinned (.plain (OpenSpec.upto netpbmSeveralSpec)) netpbmSeveralUptoCard

/-- THE SECOND FORM's CARD OF 'barscanlaw32.NetpbmJoins'. -/
def netpbmJoinsUptoCard : Claim7 := { stood := { row := netpbmJoinsUptoRow, standIns := [], harness := (true, "098cb9d1ecdc520c87ba2f53174aea76b1616d3f1ad2fe01aae1017ed4452265"), looks := true }, kinds := [], alts := [], laidByText := true, laidKinds := [.data, .data, .data], laidTests := true, laidLooks := .later }
def NetpbmJoinsUptoCardSaid : Prop := Claim7.holds Tryd.pinned (.plain (OpenSpec.upto netpbmJoinsSpec)) netpbmJoinsUptoCard
end Rows
end Go.Proofs.YtpbiaeiebhgmgaaDoor
