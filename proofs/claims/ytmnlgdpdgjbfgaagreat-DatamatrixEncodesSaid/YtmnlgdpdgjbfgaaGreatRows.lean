/-
  No cell of these rows narrows 'for every input' (looked for: loops, veiled, ifaces, maps, wideKeys, modest, calm, conditions, laid).
  DERIVED. THE GIVEN ROWS OF THIS SEAT. 9 by the template 'for every input the law returns true; each argument reads behind the call as it read before'; 0 by the template 'total and deterministic' (their statements: YtmnlgdpdgjbfgaaGreatTotals.lean).
  GIVEN WITH THE SEED: the statements are not yours to turn. If you find one false, say at which input.
  Laid BY PROGRAM, IN A SANDBOX (cutbox-rows.mjs): the forced cells as the released guide's own fill.sh prints them over the translation 0340f893a8beb1eb… (all of the seat's roots in one cut). By AI agents, Wed Nov 11 2026. No macro, syntax, notation, axiom, sorry.
-/
import Derived.Test.YtmnlgdpdgjbfgaaGreatChecked
import GoSem.Claim
import GoSem.ClaimJoined
import GoSem.ClaimMapViews
import Derived.JoinedTies
import Derived.KernelRfl
namespace Go.Proofs.YtmnlgdpdgjbfgaaGreat
/- THE CELL 'sum', in the pinned program and in every row, IS THE sha256 OF THE DUMP (.gsa) THAT YtmnlgdpdgjbfgaaGreatProg.lean LOADS. Nothing in Lean hashes anything: it is a label: what it is worth is what the hold of that sum in a sandbox is worth. -/
noncomputable def Tryz.pinned : Pinned := { name := "ytmnlgdpdgjbfgaagreat", sum := "0340f893a8beb1eb0d55811fe0592b3df9fc36625d139f2a786d9978877a9d6b", checked := Tryz.checked }
namespace Rows
def none {H : Type} : Left H := { results := [], args := [] }

/-- 'barscanlaw26.DatamatrixProtects': WHATEVER THE INPUT: true; the input reads as it did. -/
def datamatrixProtectsSpec : ChangeSpec := { name := "datamatrixProtects", fn := fun _ => fun
  | [d1, d2] => { results := [.lit (.bool true)], args := [d1, d2] }
  | _ => none }
def datamatrixProtectsRow : OpenClaim := { program := "ytmnlgdpdgjbfgaagreat", sum := "0340f893a8beb1eb0d55811fe0592b3df9fc36625d139f2a786d9978877a9d6b", func := "barscan/barscanlaw26.DatamatrixProtects", spec := "datamatrixProtects", unfollowed := true, recurses := true, apart := false }
def DatamatrixProtectsSaid : Prop := datamatrixProtectsRow.holds Tryz.pinned (OpenSpec.ofChange datamatrixProtectsSpec)

/-- ITS FALSE NEIGHBOUR: 'it returns false'. Refute it at one input. -/
def datamatrixProtectsWrong : ChangeSpec := { name := "datamatrixProtects", fn := fun _ => fun
  | [d1, d2] => { results := [.lit (.bool false)], args := [d1, d2] }
  | _ => none }
def DatamatrixProtectsWrongFalsely : Prop := datamatrixProtectsRow.holds Tryz.pinned (OpenSpec.ofChange datamatrixProtectsWrong)

/-- 'barscanlaw26.DatamatrixRepairs': WHATEVER THE INPUT: true; the input reads as it did. -/
def datamatrixRepairsSpec : ChangeSpec := { name := "datamatrixRepairs", fn := fun _ => fun
  | [d1, d2] => { results := [.lit (.bool true)], args := [d1, d2] }
  | _ => none }
def datamatrixRepairsRow : OpenClaim := { program := "ytmnlgdpdgjbfgaagreat", sum := "0340f893a8beb1eb0d55811fe0592b3df9fc36625d139f2a786d9978877a9d6b", func := "barscan/barscanlaw26.DatamatrixRepairs", spec := "datamatrixRepairs", unfollowed := true, recurses := true, apart := false }
def DatamatrixRepairsSaid : Prop := datamatrixRepairsRow.holds Tryz.pinned (OpenSpec.ofChange datamatrixRepairsSpec)

/-- ITS FALSE NEIGHBOUR: 'it returns false'. Refute it at one input. -/
def datamatrixRepairsWrong : ChangeSpec := { name := "datamatrixRepairs", fn := fun _ => fun
  | [d1, d2] => { results := [.lit (.bool false)], args := [d1, d2] }
  | _ => none }
def DatamatrixRepairsWrongFalsely : Prop := datamatrixRepairsRow.holds Tryz.pinned (OpenSpec.ofChange datamatrixRepairsWrong)

/-- 'barscanlaw26.DatamatrixEncodes': WHATEVER THE INPUT: true; the input reads as it did. -/
def datamatrixEncodesSpec : ChangeSpec := { name := "datamatrixEncodes", fn := fun _ => fun
  | [d1, d2] => { results := [.lit (.bool true)], args := [d1, d2] }
  | _ => none }
def datamatrixEncodesRow : OpenClaim := { program := "ytmnlgdpdgjbfgaagreat", sum := "0340f893a8beb1eb0d55811fe0592b3df9fc36625d139f2a786d9978877a9d6b", func := "barscan/barscanlaw26.DatamatrixEncodes", spec := "datamatrixEncodes", unfollowed := true, recurses := true, apart := false }
def DatamatrixEncodesSaid : Prop := datamatrixEncodesRow.holds Tryz.pinned (OpenSpec.ofChange datamatrixEncodesSpec)

/-- ITS FALSE NEIGHBOUR: 'it returns false'. Refute it at one input. -/
def datamatrixEncodesWrong : ChangeSpec := { name := "datamatrixEncodes", fn := fun _ => fun
  | [d1, d2] => { results := [.lit (.bool false)], args := [d1, d2] }
  | _ => none }
def DatamatrixEncodesWrongFalsely : Prop := datamatrixEncodesRow.holds Tryz.pinned (OpenSpec.ofChange datamatrixEncodesWrong)

/-- 'barscanlaw26.DatamatrixDecodes': WHATEVER THE INPUT: true; the input reads as it did. -/
def datamatrixDecodesSpec : ChangeSpec := { name := "datamatrixDecodes", fn := fun _ => fun
  | [d] => { results := [.lit (.bool true)], args := [d] }
  | _ => none }
def datamatrixDecodesRow : OpenClaim := { program := "ytmnlgdpdgjbfgaagreat", sum := "0340f893a8beb1eb0d55811fe0592b3df9fc36625d139f2a786d9978877a9d6b", func := "barscan/barscanlaw26.DatamatrixDecodes", spec := "datamatrixDecodes", unfollowed := true, recurses := true, apart := false }
def DatamatrixDecodesSaid : Prop := datamatrixDecodesRow.holds Tryz.pinned (OpenSpec.ofChange datamatrixDecodesSpec)

/-- ITS FALSE NEIGHBOUR: 'it returns false'. Refute it at one input. -/
def datamatrixDecodesWrong : ChangeSpec := { name := "datamatrixDecodes", fn := fun _ => fun
  | [d] => { results := [.lit (.bool false)], args := [d] }
  | _ => none }
def DatamatrixDecodesWrongFalsely : Prop := datamatrixDecodesRow.holds Tryz.pinned (OpenSpec.ofChange datamatrixDecodesWrong)

/-- 'barscanlaw26.DatamatrixRoundTrip': WHATEVER THE INPUT: true; the input reads as it did. -/
def datamatrixRoundTripSpec : ChangeSpec := { name := "datamatrixRoundTrip", fn := fun _ => fun
  | [d1, d2] => { results := [.lit (.bool true)], args := [d1, d2] }
  | _ => none }
def datamatrixRoundTripRow : OpenClaim := { program := "ytmnlgdpdgjbfgaagreat", sum := "0340f893a8beb1eb0d55811fe0592b3df9fc36625d139f2a786d9978877a9d6b", func := "barscan/barscanlaw26.DatamatrixRoundTrip", spec := "datamatrixRoundTrip", unfollowed := true, recurses := true, apart := false }
def DatamatrixRoundTripSaid : Prop := datamatrixRoundTripRow.holds Tryz.pinned (OpenSpec.ofChange datamatrixRoundTripSpec)

/-- ITS FALSE NEIGHBOUR: 'it returns false'. Refute it at one input. -/
def datamatrixRoundTripWrong : ChangeSpec := { name := "datamatrixRoundTrip", fn := fun _ => fun
  | [d1, d2] => { results := [.lit (.bool false)], args := [d1, d2] }
  | _ => none }
def DatamatrixRoundTripWrongFalsely : Prop := datamatrixRoundTripRow.holds Tryz.pinned (OpenSpec.ofChange datamatrixRoundTripWrong)

/-- 'barscanlaw26.DatamatrixCorrects': WHATEVER THE INPUT: true; the input reads as it did. -/
def datamatrixCorrectsSpec : ChangeSpec := { name := "datamatrixCorrects", fn := fun _ => fun
  | [d1, d2, d3, d4] => { results := [.lit (.bool true)], args := [d1, d2, d3, d4] }
  | _ => none }
def datamatrixCorrectsRow : OpenClaim := { program := "ytmnlgdpdgjbfgaagreat", sum := "0340f893a8beb1eb0d55811fe0592b3df9fc36625d139f2a786d9978877a9d6b", func := "barscan/barscanlaw26.DatamatrixCorrects", spec := "datamatrixCorrects", unfollowed := true, recurses := true, apart := false }
def DatamatrixCorrectsSaid : Prop := datamatrixCorrectsRow.holds Tryz.pinned (OpenSpec.ofChange datamatrixCorrectsSpec)

/-- ITS FALSE NEIGHBOUR: 'it returns false'. Refute it at one input. -/
def datamatrixCorrectsWrong : ChangeSpec := { name := "datamatrixCorrects", fn := fun _ => fun
  | [d1, d2, d3, d4] => { results := [.lit (.bool false)], args := [d1, d2, d3, d4] }
  | _ => none }
def DatamatrixCorrectsWrongFalsely : Prop := datamatrixCorrectsRow.holds Tryz.pinned (OpenSpec.ofChange datamatrixCorrectsWrong)

/-- 'barscanlaw26.DatamatrixDetects': WHATEVER THE INPUT: true; the input reads as it did. -/
def datamatrixDetectsSpec : ChangeSpec := { name := "datamatrixDetects", fn := fun _ => fun
  | [d1, d2] => { results := [.lit (.bool true)], args := [d1, d2] }
  | _ => none }
def datamatrixDetectsRow : OpenClaim := { program := "ytmnlgdpdgjbfgaagreat", sum := "0340f893a8beb1eb0d55811fe0592b3df9fc36625d139f2a786d9978877a9d6b", func := "barscan/barscanlaw26.DatamatrixDetects", spec := "datamatrixDetects", unfollowed := true, recurses := true, apart := false }
def DatamatrixDetectsSaid : Prop := datamatrixDetectsRow.holds Tryz.pinned (OpenSpec.ofChange datamatrixDetectsSpec)

/-- ITS FALSE NEIGHBOUR: 'it returns false'. Refute it at one input. -/
def datamatrixDetectsWrong : ChangeSpec := { name := "datamatrixDetects", fn := fun _ => fun
  | [d1, d2] => { results := [.lit (.bool false)], args := [d1, d2] }
  | _ => none }
def DatamatrixDetectsWrongFalsely : Prop := datamatrixDetectsRow.holds Tryz.pinned (OpenSpec.ofChange datamatrixDetectsWrong)

/-- 'barscanlaw26.DatamatrixLeast': WHATEVER THE INPUT: true; the input reads as it did. -/
def datamatrixLeastSpec : ChangeSpec := { name := "datamatrixLeast", fn := fun _ => fun
  | [d1, d2] => { results := [.lit (.bool true)], args := [d1, d2] }
  | _ => none }
def datamatrixLeastRow : OpenClaim := { program := "ytmnlgdpdgjbfgaagreat", sum := "0340f893a8beb1eb0d55811fe0592b3df9fc36625d139f2a786d9978877a9d6b", func := "barscan/barscanlaw26.DatamatrixLeast", spec := "datamatrixLeast", unfollowed := true, recurses := true, apart := false }
def DatamatrixLeastSaid : Prop := datamatrixLeastRow.holds Tryz.pinned (OpenSpec.ofChange datamatrixLeastSpec)

/-- ITS FALSE NEIGHBOUR: 'it returns false'. Refute it at one input. -/
def datamatrixLeastWrong : ChangeSpec := { name := "datamatrixLeast", fn := fun _ => fun
  | [d1, d2] => { results := [.lit (.bool false)], args := [d1, d2] }
  | _ => none }
def DatamatrixLeastWrongFalsely : Prop := datamatrixLeastRow.holds Tryz.pinned (OpenSpec.ofChange datamatrixLeastWrong)

/-- 'barscanlaw26.DatamatrixBursts': WHATEVER THE INPUT: true; the input reads as it did. -/
def datamatrixBurstsSpec : ChangeSpec := { name := "datamatrixBursts", fn := fun _ => fun
  | [d1, d2, d3, d4] => { results := [.lit (.bool true)], args := [d1, d2, d3, d4] }
  | _ => none }
def datamatrixBurstsRow : OpenClaim := { program := "ytmnlgdpdgjbfgaagreat", sum := "0340f893a8beb1eb0d55811fe0592b3df9fc36625d139f2a786d9978877a9d6b", func := "barscan/barscanlaw26.DatamatrixBursts", spec := "datamatrixBursts", unfollowed := true, recurses := true, apart := false }
def DatamatrixBurstsSaid : Prop := datamatrixBurstsRow.holds Tryz.pinned (OpenSpec.ofChange datamatrixBurstsSpec)

/-- ITS FALSE NEIGHBOUR: 'it returns false'. Refute it at one input. -/
def datamatrixBurstsWrong : ChangeSpec := { name := "datamatrixBursts", fn := fun _ => fun
  | [d1, d2, d3, d4] => { results := [.lit (.bool false)], args := [d1, d2, d3, d4] }
  | _ => none }
def DatamatrixBurstsWrongFalsely : Prop := datamatrixBurstsRow.holds Tryz.pinned (OpenSpec.ofChange datamatrixBurstsWrong)

/- THE SECOND FORM. 'bulk': how many values and letters a reading holds, each counted each time it is reached (what is shared counts as often as it is met; a slice's spare places count too). A statement '..UptoSaid' is the law's where the arguments, and the package variables that the reading takes, are together of bulk at most 1048576: NARROWER than '..Said'. Prove '..Said' where nothing that the law and all that it calls make is longer than what came in: it says more and counts as full. Else prove '..UptoSaid'. A law counts once. -/
mutual
def uptoBulk {H : Type} : DataW H → Nat
  | .lit (.string bytes) => bytes.length + 1
  | .lit _ => 1
  | .nil => 1
  | .ptr d => uptoBulk d + 1
  | .slice elems spare => uptoBulkAll elems + uptoBulkAll spare + 1
  | .agg parts => uptoBulkAll parts + 1
  | .iface _ d => uptoBulk d + 1
  | .map entries => uptoBulkEntries entries + 1
  | .held _ => 1
def uptoBulkAll {H : Type} : List (DataW H) → Nat
  | [] => 0
  | d :: r => uptoBulk d + uptoBulkAll r
def uptoBulkEntries {H : Type} : List (Lit × DataW H) → Nat
  | [] => 0
  | x :: r => uptoBulkEntry x + uptoBulkEntries r
def uptoBulkEntry {H : Type} : Lit × DataW H → Nat
  | (.string bytes, d) => bytes.length + uptoBulk d + 1
  | (_, d) => uptoBulk d + 1
 end
def uptoSmall : (H : Type) → List (DataW H) → Bool := fun _ ds => decide (uptoBulkAll ds ≤ 1048576)
def OpenSpec.upto (s : _root_.Go.ChangeSpec) : _root_.Go.OpenSpec := { _root_.Go.OpenSpec.ofChange s with cond := some uptoSmall }

/-- 'barscanlaw26.DatamatrixProtects', WHERE WHAT IT READS IS OF BULK AT MOST 1048576: true; the input reads as it did. -/
def datamatrixProtectsUptoRow : OpenClaim := { program := "ytmnlgdpdgjbfgaagreat", sum := "0340f893a8beb1eb0d55811fe0592b3df9fc36625d139f2a786d9978877a9d6b", func := "barscan/barscanlaw26.DatamatrixProtects", spec := "datamatrixProtects", unfollowed := true, recurses := true, apart := false, narrowed := true }
def DatamatrixProtectsUptoSaid : Prop := datamatrixProtectsUptoRow.holds Tryz.pinned (OpenSpec.upto datamatrixProtectsSpec)

/-- 'barscanlaw26.DatamatrixRepairs', WHERE WHAT IT READS IS OF BULK AT MOST 1048576: true; the input reads as it did. -/
def datamatrixRepairsUptoRow : OpenClaim := { program := "ytmnlgdpdgjbfgaagreat", sum := "0340f893a8beb1eb0d55811fe0592b3df9fc36625d139f2a786d9978877a9d6b", func := "barscan/barscanlaw26.DatamatrixRepairs", spec := "datamatrixRepairs", unfollowed := true, recurses := true, apart := false, narrowed := true }
def DatamatrixRepairsUptoSaid : Prop := datamatrixRepairsUptoRow.holds Tryz.pinned (OpenSpec.upto datamatrixRepairsSpec)

/-- 'barscanlaw26.DatamatrixEncodes', WHERE WHAT IT READS IS OF BULK AT MOST 1048576: true; the input reads as it did. -/
def datamatrixEncodesUptoRow : OpenClaim := { program := "ytmnlgdpdgjbfgaagreat", sum := "0340f893a8beb1eb0d55811fe0592b3df9fc36625d139f2a786d9978877a9d6b", func := "barscan/barscanlaw26.DatamatrixEncodes", spec := "datamatrixEncodes", unfollowed := true, recurses := true, apart := false, narrowed := true }
def DatamatrixEncodesUptoSaid : Prop := datamatrixEncodesUptoRow.holds Tryz.pinned (OpenSpec.upto datamatrixEncodesSpec)

/-- 'barscanlaw26.DatamatrixDecodes', WHERE WHAT IT READS IS OF BULK AT MOST 1048576: true; the input reads as it did. -/
def datamatrixDecodesUptoRow : OpenClaim := { program := "ytmnlgdpdgjbfgaagreat", sum := "0340f893a8beb1eb0d55811fe0592b3df9fc36625d139f2a786d9978877a9d6b", func := "barscan/barscanlaw26.DatamatrixDecodes", spec := "datamatrixDecodes", unfollowed := true, recurses := true, apart := false, narrowed := true }
def DatamatrixDecodesUptoSaid : Prop := datamatrixDecodesUptoRow.holds Tryz.pinned (OpenSpec.upto datamatrixDecodesSpec)

/-- 'barscanlaw26.DatamatrixRoundTrip', WHERE WHAT IT READS IS OF BULK AT MOST 1048576: true; the input reads as it did. -/
def datamatrixRoundTripUptoRow : OpenClaim := { program := "ytmnlgdpdgjbfgaagreat", sum := "0340f893a8beb1eb0d55811fe0592b3df9fc36625d139f2a786d9978877a9d6b", func := "barscan/barscanlaw26.DatamatrixRoundTrip", spec := "datamatrixRoundTrip", unfollowed := true, recurses := true, apart := false, narrowed := true }
def DatamatrixRoundTripUptoSaid : Prop := datamatrixRoundTripUptoRow.holds Tryz.pinned (OpenSpec.upto datamatrixRoundTripSpec)

/-- 'barscanlaw26.DatamatrixCorrects', WHERE WHAT IT READS IS OF BULK AT MOST 1048576: true; the input reads as it did. -/
def datamatrixCorrectsUptoRow : OpenClaim := { program := "ytmnlgdpdgjbfgaagreat", sum := "0340f893a8beb1eb0d55811fe0592b3df9fc36625d139f2a786d9978877a9d6b", func := "barscan/barscanlaw26.DatamatrixCorrects", spec := "datamatrixCorrects", unfollowed := true, recurses := true, apart := false, narrowed := true }
def DatamatrixCorrectsUptoSaid : Prop := datamatrixCorrectsUptoRow.holds Tryz.pinned (OpenSpec.upto datamatrixCorrectsSpec)

/-- 'barscanlaw26.DatamatrixDetects', WHERE WHAT IT READS IS OF BULK AT MOST 1048576: true; the input reads as it did. -/
def datamatrixDetectsUptoRow : OpenClaim := { program := "ytmnlgdpdgjbfgaagreat", sum := "0340f893a8beb1eb0d55811fe0592b3df9fc36625d139f2a786d9978877a9d6b", func := "barscan/barscanlaw26.DatamatrixDetects", spec := "datamatrixDetects", unfollowed := true, recurses := true, apart := false, narrowed := true }
def DatamatrixDetectsUptoSaid : Prop := datamatrixDetectsUptoRow.holds Tryz.pinned (OpenSpec.upto datamatrixDetectsSpec)

/-- 'barscanlaw26.DatamatrixLeast', WHERE WHAT IT READS IS OF BULK AT MOST 1048576: true; the input reads as it did. -/
def datamatrixLeastUptoRow : OpenClaim := { program := "ytmnlgdpdgjbfgaagreat", sum := "0340f893a8beb1eb0d55811fe0592b3df9fc36625d139f2a786d9978877a9d6b", func := "barscan/barscanlaw26.DatamatrixLeast", spec := "datamatrixLeast", unfollowed := true, recurses := true, apart := false, narrowed := true }
def DatamatrixLeastUptoSaid : Prop := datamatrixLeastUptoRow.holds Tryz.pinned (OpenSpec.upto datamatrixLeastSpec)

/-- 'barscanlaw26.DatamatrixBursts', WHERE WHAT IT READS IS OF BULK AT MOST 1048576: true; the input reads as it did. -/
def datamatrixBurstsUptoRow : OpenClaim := { program := "ytmnlgdpdgjbfgaagreat", sum := "0340f893a8beb1eb0d55811fe0592b3df9fc36625d139f2a786d9978877a9d6b", func := "barscan/barscanlaw26.DatamatrixBursts", spec := "datamatrixBursts", unfollowed := true, recurses := true, apart := false, narrowed := true }
def DatamatrixBurstsUptoSaid : Prop := datamatrixBurstsUptoRow.holds Tryz.pinned (OpenSpec.upto datamatrixBurstsSpec)

end Rows
end Go.Proofs.YtmnlgdpdgjbfgaaGreat
