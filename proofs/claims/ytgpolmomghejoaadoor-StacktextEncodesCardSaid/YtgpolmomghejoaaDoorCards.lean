/-
  DERIVED. GIVEN WITH THE SEED: THE CARDS: each row of YtgpolmomghejoaaDoorRows.lean that lists a variable, with what it lists TIED to the program's text (the seventh form; the later family's looks); each row that meets fmt, with fmt's text TOLD by the authors' own Lean function (tested against real Go, not proved from fmt's source: count such statements apart). THE CARD IS WHAT COUNTS. Prove the row's statement (the work); the ties are given (YtgpolmomghejoaaDoorTie.lean); close each card by the builder's one call (the guide's Derived/Test/ToyasCard.lean, 'card_holds'). Laid BY PROGRAM, IN A SANDBOX (cutbox-door.mjs). By AI agents, Wed Nov 11 2026. No macro, syntax, notation, axiom, sorry.
-/
import Derived.Test.YtgpolmomghejoaaDoorRows
import GoSem.ClaimSeven
namespace Go.Proofs.YtgpolmomghejoaaDoor
namespace Rows

/-- THE TIED CARD OF 'barscanlaw29.StacktextNumerics'. -/
def stacktextNumericsCard : Claim7 := { stood := { row := stacktextNumericsRow, standIns := [], harness := (true, "7eedaa151f01a7fdf6b974efa2e85f0bd2a8d94a1c4e09dc5b493bb8da2169da"), looks := true }, kinds := [], alts := [], laidByText := true, laidKinds := [.data, .data, .data], laidTests := true, laidLooks := .later }
def StacktextNumericsCardSaid : Prop := Claim7.holds Tryd.pinned (.plain (OpenSpec.ofChange stacktextNumericsSpec)) stacktextNumericsCard

/-- THE TIED CARD OF 'barscanlaw29.StacktextDecodes'. -/
def stacktextDecodesCard : Claim7 := { stood := { row := stacktextDecodesRow, standIns := [], harness := (true, "7eedaa151f01a7fdf6b974efa2e85f0bd2a8d94a1c4e09dc5b493bb8da2169da"), looks := true }, kinds := [], alts := [], laidByText := true, laidKinds := [.data, .data, .data], laidTests := true, laidLooks := .later }
def StacktextDecodesCardSaid : Prop := Claim7.holds Tryd.pinned (.plain (OpenSpec.ofChange stacktextDecodesSpec)) stacktextDecodesCard

/-- THE TIED CARD OF 'barscanlaw29.StacktextEncodes'. -/
def stacktextEncodesCard : Claim7 := { stood := { row := stacktextEncodesRow, standIns := [], harness := (true, "7eedaa151f01a7fdf6b974efa2e85f0bd2a8d94a1c4e09dc5b493bb8da2169da"), looks := true }, kinds := [], alts := [], laidByText := true, laidKinds := [.data, .data, .data], laidTests := true, laidLooks := .later }
def StacktextEncodesCardSaid : Prop := Claim7.holds Tryd.pinned (.plain (OpenSpec.ofChange stacktextEncodesSpec)) stacktextEncodesCard

/-- THE TIED CARD OF 'barscanlaw29.StacktextLimits'. -/
def stacktextLimitsCard : Claim7 := { stood := { row := stacktextLimitsRow, standIns := [], harness := (true, "7eedaa151f01a7fdf6b974efa2e85f0bd2a8d94a1c4e09dc5b493bb8da2169da"), looks := true }, kinds := [], alts := [], laidByText := true, laidKinds := [.data, .data, .data], laidTests := true, laidLooks := .later }
def StacktextLimitsCardSaid : Prop := Claim7.holds Tryd.pinned (.plain (OpenSpec.ofChange stacktextLimitsSpec)) stacktextLimitsCard

/-- THE TIED CARD OF 'barscanlaw29.StacktextRoundTrip'. -/
def stacktextRoundTripCard : Claim7 := { stood := { row := stacktextRoundTripRow, standIns := [], harness := (true, "7eedaa151f01a7fdf6b974efa2e85f0bd2a8d94a1c4e09dc5b493bb8da2169da"), looks := true }, kinds := [], alts := [], laidByText := true, laidKinds := [.data, .data, .data], laidTests := true, laidLooks := .later }
def StacktextRoundTripCardSaid : Prop := Claim7.holds Tryd.pinned (.plain (OpenSpec.ofChange stacktextRoundTripSpec)) stacktextRoundTripCard

/-- THE TIED CARD OF 'barscanlaw29.StacktextDigits'. -/
def stacktextDigitsCard : Claim7 := { stood := { row := stacktextDigitsRow, standIns := [], harness := (true, "7eedaa151f01a7fdf6b974efa2e85f0bd2a8d94a1c4e09dc5b493bb8da2169da"), looks := true }, kinds := [], alts := [], laidByText := true, laidKinds := [.data, .data, .data], laidTests := true, laidLooks := .later }
def StacktextDigitsCardSaid : Prop := Claim7.holds Tryd.pinned (.plain (OpenSpec.ofChange stacktextDigitsSpec)) stacktextDigitsCard

/-- THE TIED CARD OF 'barscanlaw29.StacktextMinimal'. -/
def stacktextMinimalCard : Claim7 := { stood := { row := stacktextMinimalRow, standIns := [], harness := (true, "7eedaa151f01a7fdf6b974efa2e85f0bd2a8d94a1c4e09dc5b493bb8da2169da"), looks := true }, kinds := [], alts := [], laidByText := true, laidKinds := [.data, .data, .data], laidTests := true, laidLooks := .later }
def StacktextMinimalCardSaid : Prop := Claim7.holds Tryd.pinned (.plain (OpenSpec.ofChange stacktextMinimalSpec)) stacktextMinimalCard

/-- THE TIED CARD OF 'barscanlaw29.StacktextJoins'. -/
def stacktextJoinsCard : Claim7 := { stood := { row := stacktextJoinsRow, standIns := [], harness := (true, "7eedaa151f01a7fdf6b974efa2e85f0bd2a8d94a1c4e09dc5b493bb8da2169da"), looks := true }, kinds := [], alts := [], laidByText := true, laidKinds := [.data, .data, .data], laidTests := true, laidLooks := .later }
def StacktextJoinsCardSaid : Prop := Claim7.holds Tryd.pinned (.plain (OpenSpec.ofChange stacktextJoinsSpec)) stacktextJoinsCard

/-- THE TIED CARD OF 'barscanlaw29.StacktextBounds'. -/
def stacktextBoundsCard : Claim7 := { stood := { row := stacktextBoundsRow, standIns := [], harness := (true, "7eedaa151f01a7fdf6b974efa2e85f0bd2a8d94a1c4e09dc5b493bb8da2169da"), looks := true }, kinds := [], alts := [], laidByText := true, laidKinds := [.data, .data, .data], laidTests := true, laidLooks := .later }
def StacktextBoundsCardSaid : Prop := Claim7.holds Tryd.pinned (.plain (OpenSpec.ofChange stacktextBoundsSpec)) stacktextBoundsCard

/-- THE SECOND FORM's CARD OF 'barscanlaw29.StacktextNumerics'. -/
def stacktextNumericsUptoCard : Claim7 := { stood := { row := stacktextNumericsUptoRow, standIns := [], harness := (true, "7eedaa151f01a7fdf6b974efa2e85f0bd2a8d94a1c4e09dc5b493bb8da2169da"), looks := true }, kinds := [], alts := [], laidByText := true, laidKinds := [.data, .data, .data], laidTests := true, laidLooks := .later }
def StacktextNumericsUptoCardSaid : Prop := Claim7.holds Tryd.pinned (.plain (OpenSpec.upto stacktextNumericsSpec)) stacktextNumericsUptoCard

/-- THE SECOND FORM's CARD OF 'barscanlaw29.StacktextDecodes'. -/
def stacktextDecodesUptoCard : Claim7 := { stood := { row := stacktextDecodesUptoRow, standIns := [], harness := (true, "7eedaa151f01a7fdf6b974efa2e85f0bd2a8d94a1c4e09dc5b493bb8da2169da"), looks := true }, kinds := [], alts := [], laidByText := true, laidKinds := [.data, .data, .data], laidTests := true, laidLooks := .later }
def StacktextDecodesUptoCardSaid : Prop := Claim7.holds Tryd.pinned (.plain (OpenSpec.upto stacktextDecodesSpec)) stacktextDecodesUptoCard

/-- THE SECOND FORM's CARD OF 'barscanlaw29.StacktextEncodes'. -/
def stacktextEncodesUptoCard : Claim7 := { stood := { row := stacktextEncodesUptoRow, standIns := [], harness := (true, "7eedaa151f01a7fdf6b974efa2e85f0bd2a8d94a1c4e09dc5b493bb8da2169da"), looks := true }, kinds := [], alts := [], laidByText := true, laidKinds := [.data, .data, .data], laidTests := true, laidLooks := .later }
def StacktextEncodesUptoCardSaid : Prop := Claim7.holds Tryd.pinned (.plain (OpenSpec.upto stacktextEncodesSpec)) stacktextEncodesUptoCard

/-- THE SECOND FORM's CARD OF 'barscanlaw29.StacktextLimits'. -/
def stacktextLimitsUptoCard : Claim7 := { stood := { row := stacktextLimitsUptoRow, standIns := [], harness := (true, "7eedaa151f01a7fdf6b974efa2e85f0bd2a8d94a1c4e09dc5b493bb8da2169da"), looks := true }, kinds := [], alts := [], laidByText := true, laidKinds := [.data, .data, .data], laidTests := true, laidLooks := .later }
def StacktextLimitsUptoCardSaid : Prop := Claim7.holds Tryd.pinned (.plain (OpenSpec.upto stacktextLimitsSpec)) stacktextLimitsUptoCard

/-- THE SECOND FORM's CARD OF 'barscanlaw29.StacktextRoundTrip'. -/
def stacktextRoundTripUptoCard : Claim7 := { stood := { row := stacktextRoundTripUptoRow, standIns := [], harness := (true, "7eedaa151f01a7fdf6b974efa2e85f0bd2a8d94a1c4e09dc5b493bb8da2169da"), looks := true }, kinds := [], alts := [], laidByText := true, laidKinds := [.data, .data, .data], laidTests := true, laidLooks := .later }
def StacktextRoundTripUptoCardSaid : Prop := Claim7.holds Tryd.pinned (.plain (OpenSpec.upto stacktextRoundTripSpec)) stacktextRoundTripUptoCard

/-- THE SECOND FORM's CARD OF 'barscanlaw29.StacktextDigits'. -/
def stacktextDigitsUptoCard : Claim7 := { stood := { row := stacktextDigitsUptoRow, standIns := [], harness := (true, "7eedaa151f01a7fdf6b974efa2e85f0bd2a8d94a1c4e09dc5b493bb8da2169da"), looks := true }, kinds := [], alts := [], laidByText := true, laidKinds := [.data, .data, .data], laidTests := true, laidLooks := .later }
def StacktextDigitsUptoCardSaid : Prop := Claim7.holds Tryd.pinned (.plain (OpenSpec.upto stacktextDigitsSpec)) stacktextDigitsUptoCard

/-- THE SECOND FORM's CARD OF 'barscanlaw29.StacktextMinimal'. -/
def stacktextMinimalUptoCard : Claim7 := { stood := { row := stacktextMinimalUptoRow, standIns := [], harness := (true, "7eedaa151f01a7fdf6b974efa2e85f0bd2a8d94a1c4e09dc5b493bb8da2169da"), looks := true }, kinds := [], alts := [], laidByText := true, laidKinds := [.data, .data, .data], laidTests := true, laidLooks := .later }
def StacktextMinimalUptoCardSaid : Prop := Claim7.holds Tryd.pinned (.plain (OpenSpec.upto stacktextMinimalSpec)) stacktextMinimalUptoCard

/-- THE SECOND FORM's CARD OF 'barscanlaw29.StacktextJoins'. -/
def stacktextJoinsUptoCard : Claim7 := { stood := { row := stacktextJoinsUptoRow, standIns := [], harness := (true, "7eedaa151f01a7fdf6b974efa2e85f0bd2a8d94a1c4e09dc5b493bb8da2169da"), looks := true }, kinds := [], alts := [], laidByText := true, laidKinds := [.data, .data, .data], laidTests := true, laidLooks := .later }
def StacktextJoinsUptoCardSaid : Prop := Claim7.holds Tryd.pinned (.plain (OpenSpec.upto stacktextJoinsSpec)) stacktextJoinsUptoCard

/-- THE SECOND FORM's CARD OF 'barscanlaw29.StacktextBounds'. -/
def stacktextBoundsUptoCard : Claim7 := { stood := { row := stacktextBoundsUptoRow, standIns := [], harness := (true, "7eedaa151f01a7fdf6b974efa2e85f0bd2a8d94a1c4e09dc5b493bb8da2169da"), looks := true }, kinds := [], alts := [], laidByText := true, laidKinds := [.data, .data, .data], laidTests := true, laidLooks := .later }
def StacktextBoundsUptoCardSaid : Prop := Claim7.holds Tryd.pinned (.plain (OpenSpec.upto stacktextBoundsSpec)) stacktextBoundsUptoCard
end Rows
end Go.Proofs.YtgpolmomghejoaaDoor
