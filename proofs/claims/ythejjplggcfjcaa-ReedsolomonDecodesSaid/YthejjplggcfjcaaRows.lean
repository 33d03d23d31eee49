/-
  No cell of these rows narrows 'for every input' (looked for: loops, veiled, ifaces, maps, wideKeys, modest, calm, conditions, laid).
  DERIVED. THE GIVEN ROWS OF THIS SEAT. 7 by the template 'for every input the law returns true; each argument reads behind the call as it read before'; 0 by the template 'total and deterministic' (their statements: YthejjplggcfjcaaTotals.lean).
  GIVEN WITH THE SEED: the statements are not yours to turn. If you find one false, say at which input.
  Laid BY PROGRAM, IN A SANDBOX (cutbox-rows.mjs): the forced cells as the released guide's own fill.sh prints them over the translation f7a42cd74d713722… (all of the seat's roots in one cut). By AI agents, Wed Nov 11 2026. No macro, syntax, notation, axiom, sorry.
-/
import Derived.Test.YthejjplggcfjcaaChecked
import GoSem.Claim
import GoSem.ClaimJoined
import GoSem.ClaimMapViews
import Derived.JoinedTies
import Derived.KernelRfl
namespace Go.Proofs.Ythejjplggcfjcaa
/- THE CELL 'sum', in the pinned program and in every row, IS THE sha256 OF THE DUMP (.gsa) THAT YthejjplggcfjcaaProg.lean LOADS. Nothing in Lean hashes anything: it is a label: what it is worth is what the hold of that sum in a sandbox is worth. -/
noncomputable def Try.pinned : Pinned := { name := "ythejjplggcfjcaa", sum := "f7a42cd74d713722c4d205cb45242932e79d91b6529cf3a0f11dca822d54eb81", checked := Try.checked }
namespace Rows
def none {H : Type} : Left H := { results := [], args := [] }

/-- 'barscanlaw07.ReedsolomonMakes': WHATEVER THE INPUT: true; the input reads as it did. -/
def reedsolomonMakesSpec : ChangeSpec := { name := "reedsolomonMakes", fn := fun _ => fun
  | [d1, d2, d3] => { results := [.lit (.bool true)], args := [d1, d2, d3] }
  | _ => none }
def reedsolomonMakesRow : OpenClaim := { program := "ythejjplggcfjcaa", sum := "f7a42cd74d713722c4d205cb45242932e79d91b6529cf3a0f11dca822d54eb81", func := "barscan/barscanlaw07.ReedsolomonMakes", spec := "reedsolomonMakes", unfollowed := true, recurses := true, apart := false }
def ReedsolomonMakesSaid : Prop := reedsolomonMakesRow.holds Try.pinned (OpenSpec.ofChange reedsolomonMakesSpec)

/-- ITS FALSE NEIGHBOUR: 'it returns false'. Refute it at one input. -/
def reedsolomonMakesWrong : ChangeSpec := { name := "reedsolomonMakes", fn := fun _ => fun
  | [d1, d2, d3] => { results := [.lit (.bool false)], args := [d1, d2, d3] }
  | _ => none }
def ReedsolomonMakesWrongFalsely : Prop := reedsolomonMakesRow.holds Try.pinned (OpenSpec.ofChange reedsolomonMakesWrong)

/-- 'barscanlaw07.ReedsolomonEncodes': WHATEVER THE INPUT: true; the input reads as it did. -/
def reedsolomonEncodesSpec : ChangeSpec := { name := "reedsolomonEncodes", fn := fun _ => fun
  | [d] => { results := [.lit (.bool true)], args := [d] }
  | _ => none }
def reedsolomonEncodesRow : OpenClaim := { program := "ythejjplggcfjcaa", sum := "f7a42cd74d713722c4d205cb45242932e79d91b6529cf3a0f11dca822d54eb81", func := "barscan/barscanlaw07.ReedsolomonEncodes", spec := "reedsolomonEncodes", unfollowed := true, recurses := true, apart := false }
def ReedsolomonEncodesSaid : Prop := reedsolomonEncodesRow.holds Try.pinned (OpenSpec.ofChange reedsolomonEncodesSpec)

/-- ITS FALSE NEIGHBOUR: 'it returns false'. Refute it at one input. -/
def reedsolomonEncodesWrong : ChangeSpec := { name := "reedsolomonEncodes", fn := fun _ => fun
  | [d] => { results := [.lit (.bool false)], args := [d] }
  | _ => none }
def ReedsolomonEncodesWrongFalsely : Prop := reedsolomonEncodesRow.holds Try.pinned (OpenSpec.ofChange reedsolomonEncodesWrong)

/-- 'barscanlaw07.ReedsolomonLocates': WHATEVER THE INPUT: true; the input reads as it did. -/
def reedsolomonLocatesSpec : ChangeSpec := { name := "reedsolomonLocates", fn := fun _ => fun
  | [d1, d2] => { results := [.lit (.bool true)], args := [d1, d2] }
  | _ => none }
def reedsolomonLocatesRow : OpenClaim := { program := "ythejjplggcfjcaa", sum := "f7a42cd74d713722c4d205cb45242932e79d91b6529cf3a0f11dca822d54eb81", func := "barscan/barscanlaw07.ReedsolomonLocates", spec := "reedsolomonLocates", unfollowed := true, recurses := true, apart := false }
def ReedsolomonLocatesSaid : Prop := reedsolomonLocatesRow.holds Try.pinned (OpenSpec.ofChange reedsolomonLocatesSpec)

/-- ITS FALSE NEIGHBOUR: 'it returns false'. Refute it at one input. -/
def reedsolomonLocatesWrong : ChangeSpec := { name := "reedsolomonLocates", fn := fun _ => fun
  | [d1, d2] => { results := [.lit (.bool false)], args := [d1, d2] }
  | _ => none }
def ReedsolomonLocatesWrongFalsely : Prop := reedsolomonLocatesRow.holds Try.pinned (OpenSpec.ofChange reedsolomonLocatesWrong)

/-- 'barscanlaw07.ReedsolomonDecodes': WHATEVER THE INPUT: true; the input reads as it did. -/
def reedsolomonDecodesSpec : ChangeSpec := { name := "reedsolomonDecodes", fn := fun _ => fun
  | [d] => { results := [.lit (.bool true)], args := [d] }
  | _ => none }
def reedsolomonDecodesRow : OpenClaim := { program := "ythejjplggcfjcaa", sum := "f7a42cd74d713722c4d205cb45242932e79d91b6529cf3a0f11dca822d54eb81", func := "barscan/barscanlaw07.ReedsolomonDecodes", spec := "reedsolomonDecodes", unfollowed := true, recurses := true, apart := false }
def ReedsolomonDecodesSaid : Prop := reedsolomonDecodesRow.holds Try.pinned (OpenSpec.ofChange reedsolomonDecodesSpec)

/-- ITS FALSE NEIGHBOUR: 'it returns false'. Refute it at one input. -/
def reedsolomonDecodesWrong : ChangeSpec := { name := "reedsolomonDecodes", fn := fun _ => fun
  | [d] => { results := [.lit (.bool false)], args := [d] }
  | _ => none }
def ReedsolomonDecodesWrongFalsely : Prop := reedsolomonDecodesRow.holds Try.pinned (OpenSpec.ofChange reedsolomonDecodesWrong)

/-- 'barscanlaw07.ReedsolomonCorrects': WHATEVER THE INPUT: true; the input reads as it did. -/
def reedsolomonCorrectsSpec : ChangeSpec := { name := "reedsolomonCorrects", fn := fun _ => fun
  | [d1, d2] => { results := [.lit (.bool true)], args := [d1, d2] }
  | _ => none }
def reedsolomonCorrectsRow : OpenClaim := { program := "ythejjplggcfjcaa", sum := "f7a42cd74d713722c4d205cb45242932e79d91b6529cf3a0f11dca822d54eb81", func := "barscan/barscanlaw07.ReedsolomonCorrects", spec := "reedsolomonCorrects", unfollowed := true, recurses := true, apart := false }
def ReedsolomonCorrectsSaid : Prop := reedsolomonCorrectsRow.holds Try.pinned (OpenSpec.ofChange reedsolomonCorrectsSpec)

/-- ITS FALSE NEIGHBOUR: 'it returns false'. Refute it at one input. -/
def reedsolomonCorrectsWrong : ChangeSpec := { name := "reedsolomonCorrects", fn := fun _ => fun
  | [d1, d2] => { results := [.lit (.bool false)], args := [d1, d2] }
  | _ => none }
def ReedsolomonCorrectsWrongFalsely : Prop := reedsolomonCorrectsRow.holds Try.pinned (OpenSpec.ofChange reedsolomonCorrectsWrong)

/-- 'barscanlaw07.ReedsolomonDetects': WHATEVER THE INPUT: true; the input reads as it did. -/
def reedsolomonDetectsSpec : ChangeSpec := { name := "reedsolomonDetects", fn := fun _ => fun
  | [d] => { results := [.lit (.bool true)], args := [d] }
  | _ => none }
def reedsolomonDetectsRow : OpenClaim := { program := "ythejjplggcfjcaa", sum := "f7a42cd74d713722c4d205cb45242932e79d91b6529cf3a0f11dca822d54eb81", func := "barscan/barscanlaw07.ReedsolomonDetects", spec := "reedsolomonDetects", unfollowed := true, recurses := true, apart := false }
def ReedsolomonDetectsSaid : Prop := reedsolomonDetectsRow.holds Try.pinned (OpenSpec.ofChange reedsolomonDetectsSpec)

/-- ITS FALSE NEIGHBOUR: 'it returns false'. Refute it at one input. -/
def reedsolomonDetectsWrong : ChangeSpec := { name := "reedsolomonDetects", fn := fun _ => fun
  | [d] => { results := [.lit (.bool false)], args := [d] }
  | _ => none }
def ReedsolomonDetectsWrongFalsely : Prop := reedsolomonDetectsRow.holds Try.pinned (OpenSpec.ofChange reedsolomonDetectsWrong)

/-- 'barscanlaw07.ReedsolomonLinear': WHATEVER THE INPUT: true; the input reads as it did. -/
def reedsolomonLinearSpec : ChangeSpec := { name := "reedsolomonLinear", fn := fun _ => fun
  | [d1, d2, d3] => { results := [.lit (.bool true)], args := [d1, d2, d3] }
  | _ => none }
def reedsolomonLinearRow : OpenClaim := { program := "ythejjplggcfjcaa", sum := "f7a42cd74d713722c4d205cb45242932e79d91b6529cf3a0f11dca822d54eb81", func := "barscan/barscanlaw07.ReedsolomonLinear", spec := "reedsolomonLinear", unfollowed := true, recurses := true, apart := false }
def ReedsolomonLinearSaid : Prop := reedsolomonLinearRow.holds Try.pinned (OpenSpec.ofChange reedsolomonLinearSpec)

/-- ITS FALSE NEIGHBOUR: 'it returns false'. Refute it at one input. -/
def reedsolomonLinearWrong : ChangeSpec := { name := "reedsolomonLinear", fn := fun _ => fun
  | [d1, d2, d3] => { results := [.lit (.bool false)], args := [d1, d2, d3] }
  | _ => none }
def ReedsolomonLinearWrongFalsely : Prop := reedsolomonLinearRow.holds Try.pinned (OpenSpec.ofChange reedsolomonLinearWrong)

/- THE SECOND FORM. 'bulk': how many values and letters a reading holds, each counted each time it is reached (what is shared counts as often as it is met; a slice's spare places count too). A statement '..UptoSaid' is the law's where the arguments, and the package variables that the reading takes, are together of bulk at most 1048576: NARROWER than '..Said'. Prove '..Said' where nothing that the law and all that it calls make is longer than what came in: it says more and counts as full. Else prove '..UptoSaid'. A law counts once. -/
mutual
def uptoBulk {H : Type} : DataW H → Nat
  | .lit (.string bytes) => bytes.length + 1
  | .lit _ => 1
  | .nil => 1
  | .ptr d => uptoBulk d + 1
  | .slice elems spare => uptoBulkAll elems + uptoBulkAll spare + 1
  | .agg parts => uptoBulkAll parts + 1
  | .iface _ d => uptoBulk d + 1
  | .map entries => uptoBulkEntries entries + 1
  | .held _ => 1
def uptoBulkAll {H : Type} : List (DataW H) → Nat
  | [] => 0
  | d :: r => uptoBulk d + uptoBulkAll r
def uptoBulkEntries {H : Type} : List (Lit × DataW H) → Nat
  | [] => 0
  | x :: r => uptoBulkEntry x + uptoBulkEntries r
def uptoBulkEntry {H : Type} : Lit × DataW H → Nat
  | (.string bytes, d) => bytes.length + uptoBulk d + 1
  | (_, d) => uptoBulk d + 1
 end
def uptoSmall : (H : Type) → List (DataW H) → Bool := fun _ ds => decide (uptoBulkAll ds ≤ 1048576)
def OpenSpec.upto (s : _root_.Go.ChangeSpec) : _root_.Go.OpenSpec := { _root_.Go.OpenSpec.ofChange s with cond := some uptoSmall }

/-- 'barscanlaw07.ReedsolomonMakes', WHERE WHAT IT READS IS OF BULK AT MOST 1048576: true; the input reads as it did. -/
def reedsolomonMakesUptoRow : OpenClaim := { program := "ythejjplggcfjcaa", sum := "f7a42cd74d713722c4d205cb45242932e79d91b6529cf3a0f11dca822d54eb81", func := "barscan/barscanlaw07.ReedsolomonMakes", spec := "reedsolomonMakes", unfollowed := true, recurses := true, apart := false, narrowed := true }
def ReedsolomonMakesUptoSaid : Prop := reedsolomonMakesUptoRow.holds Try.pinned (OpenSpec.upto reedsolomonMakesSpec)

/-- 'barscanlaw07.ReedsolomonEncodes', WHERE WHAT IT READS IS OF BULK AT MOST 1048576: true; the input reads as it did. -/
def reedsolomonEncodesUptoRow : OpenClaim := { program := "ythejjplggcfjcaa", sum := "f7a42cd74d713722c4d205cb45242932e79d91b6529cf3a0f11dca822d54eb81", func := "barscan/barscanlaw07.ReedsolomonEncodes", spec := "reedsolomonEncodes", unfollowed := true, recurses := true, apart := false, narrowed := true }
def ReedsolomonEncodesUptoSaid : Prop := reedsolomonEncodesUptoRow.holds Try.pinned (OpenSpec.upto reedsolomonEncodesSpec)

/-- 'barscanlaw07.ReedsolomonLocates', WHERE WHAT IT READS IS OF BULK AT MOST 1048576: true; the input reads as it did. -/
def reedsolomonLocatesUptoRow : OpenClaim := { program := "ythejjplggcfjcaa", sum := "f7a42cd74d713722c4d205cb45242932e79d91b6529cf3a0f11dca822d54eb81", func := "barscan/barscanlaw07.ReedsolomonLocates", spec := "reedsolomonLocates", unfollowed := true, recurses := true, apart := false, narrowed := true }
def ReedsolomonLocatesUptoSaid : Prop := reedsolomonLocatesUptoRow.holds Try.pinned (OpenSpec.upto reedsolomonLocatesSpec)

/-- 'barscanlaw07.ReedsolomonDecodes', WHERE WHAT IT READS IS OF BULK AT MOST 1048576: true; the input reads as it did. -/
def reedsolomonDecodesUptoRow : OpenClaim := { program := "ythejjplggcfjcaa", sum := "f7a42cd74d713722c4d205cb45242932e79d91b6529cf3a0f11dca822d54eb81", func := "barscan/barscanlaw07.ReedsolomonDecodes", spec := "reedsolomonDecodes", unfollowed := true, recurses := true, apart := false, narrowed := true }
def ReedsolomonDecodesUptoSaid : Prop := reedsolomonDecodesUptoRow.holds Try.pinned (OpenSpec.upto reedsolomonDecodesSpec)

/-- 'barscanlaw07.ReedsolomonCorrects', WHERE WHAT IT READS IS OF BULK AT MOST 1048576: true; the input reads as it did. -/
def reedsolomonCorrectsUptoRow : OpenClaim := { program := "ythejjplggcfjcaa", sum := "f7a42cd74d713722c4d205cb45242932e79d91b6529cf3a0f11dca822d54eb81", func := "barscan/barscanlaw07.ReedsolomonCorrects", spec := "reedsolomonCorrects", unfollowed := true, recurses := true, apart := false, narrowed := true }
def ReedsolomonCorrectsUptoSaid : Prop := reedsolomonCorrectsUptoRow.holds Try.pinned (OpenSpec.upto reedsolomonCorrectsSpec)

/-- 'barscanlaw07.ReedsolomonDetects', WHERE WHAT IT READS IS OF BULK AT MOST 1048576: true; the input reads as it did. -/
def reedsolomonDetectsUptoRow : OpenClaim := { program := "ythejjplggcfjcaa", sum := "f7a42cd74d713722c4d205cb45242932e79d91b6529cf3a0f11dca822d54eb81", func := "barscan/barscanlaw07.ReedsolomonDetects", spec := "reedsolomonDetects", unfollowed := true, recurses := true, apart := false, narrowed := true }
def ReedsolomonDetectsUptoSaid : Prop := reedsolomonDetectsUptoRow.holds Try.pinned (OpenSpec.upto reedsolomonDetectsSpec)

/-- 'barscanlaw07.ReedsolomonLinear', WHERE WHAT IT READS IS OF BULK AT MOST 1048576: true; the input reads as it did. -/
def reedsolomonLinearUptoRow : OpenClaim := { program := "ythejjplggcfjcaa", sum := "f7a42cd74d713722c4d205cb45242932e79d91b6529cf3a0f11dca822d54eb81", func := "barscan/barscanlaw07.ReedsolomonLinear", spec := "reedsolomonLinear", unfollowed := true, recurses := true, apart := false, narrowed := true }
def ReedsolomonLinearUptoSaid : Prop := reedsolomonLinearUptoRow.holds Try.pinned (OpenSpec.upto reedsolomonLinearSpec)

end Rows
end Go.Proofs.Ythejjplggcfjcaa
