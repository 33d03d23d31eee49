/-
  No cell of these rows narrows 'for every input' (looked for: loops, veiled, ifaces, maps, wideKeys, modest, calm, conditions, laid).
  DERIVED. THE GIVEN ROWS OF THIS SEAT. 6 by the template 'for every input the law returns true; each argument reads behind the call as it read before'; 0 by the template 'total and deterministic' (their statements: YthnflhimcmdnbaaTotals.lean).
  GIVEN WITH THE SEED: the statements are not yours to turn. If you find one false, say at which input.
  Laid BY PROGRAM, IN A SANDBOX (cutbox-rows.mjs): the forced cells as the released guide's own fill.sh prints them over the translation 46cabfd573419d02… (all of the seat's roots in one cut). By AI agents, Wed Nov 11 2026. No macro, syntax, notation, axiom, sorry.
-/
import Derived.Test.YthnflhimcmdnbaaChecked
import GoSem.Claim
import GoSem.ClaimJoined
import GoSem.ClaimMapViews
import Derived.JoinedTies
import Derived.KernelRfl
namespace Go.Proofs.Ythnflhimcmdnbaa
/- THE CELL 'sum', in the pinned program and in every row, IS THE sha256 OF THE DUMP (.gsa) THAT YthnflhimcmdnbaaProg.lean LOADS. Nothing in Lean hashes anything: it is a label: what it is worth is what the hold of that sum in a sandbox is worth. -/
noncomputable def Try.pinned : Pinned := { name := "ythnflhimcmdnbaa", sum := "46cabfd573419d02d3daf16cd502a59c2dd5b5cba462dc0b6459c243c9553240", checked := Try.checked }
namespace Rows
def none {H : Type} : Left H := { results := [], args := [] }

/-- 'barscanlaw24.DmtextEncodes': WHATEVER THE INPUT: true; the input reads as it did. -/
def dmtextEncodesSpec : ChangeSpec := { name := "dmtextEncodes", fn := fun _ => fun
  | [d] => { results := [.lit (.bool true)], args := [d] }
  | _ => none }
def dmtextEncodesRow : OpenClaim := { program := "ythnflhimcmdnbaa", sum := "46cabfd573419d02d3daf16cd502a59c2dd5b5cba462dc0b6459c243c9553240", func := "barscan/barscanlaw24.DmtextEncodes", spec := "dmtextEncodes", apart := false }
def DmtextEncodesSaid : Prop := dmtextEncodesRow.holds Try.pinned (OpenSpec.ofChange dmtextEncodesSpec)

/-- ITS FALSE NEIGHBOUR: 'it returns false'. Refute it at one input. -/
def dmtextEncodesWrong : ChangeSpec := { name := "dmtextEncodes", fn := fun _ => fun
  | [d] => { results := [.lit (.bool false)], args := [d] }
  | _ => none }
def DmtextEncodesWrongFalsely : Prop := dmtextEncodesRow.holds Try.pinned (OpenSpec.ofChange dmtextEncodesWrong)

/-- 'barscanlaw24.DmtextPads': WHATEVER THE INPUT: true; the input reads as it did. -/
def dmtextPadsSpec : ChangeSpec := { name := "dmtextPads", fn := fun _ => fun
  | [d1, d2] => { results := [.lit (.bool true)], args := [d1, d2] }
  | _ => none }
def dmtextPadsRow : OpenClaim := { program := "ythnflhimcmdnbaa", sum := "46cabfd573419d02d3daf16cd502a59c2dd5b5cba462dc0b6459c243c9553240", func := "barscan/barscanlaw24.DmtextPads", spec := "dmtextPads", apart := false }
def DmtextPadsSaid : Prop := dmtextPadsRow.holds Try.pinned (OpenSpec.ofChange dmtextPadsSpec)

/-- ITS FALSE NEIGHBOUR: 'it returns false'. Refute it at one input. -/
def dmtextPadsWrong : ChangeSpec := { name := "dmtextPads", fn := fun _ => fun
  | [d1, d2] => { results := [.lit (.bool false)], args := [d1, d2] }
  | _ => none }
def DmtextPadsWrongFalsely : Prop := dmtextPadsRow.holds Try.pinned (OpenSpec.ofChange dmtextPadsWrong)

/-- 'barscanlaw24.DmtextReturns': WHATEVER THE INPUT: true; the input reads as it did. -/
def dmtextReturnsSpec : ChangeSpec := { name := "dmtextReturns", fn := fun _ => fun
  | [d1, d2] => { results := [.lit (.bool true)], args := [d1, d2] }
  | _ => none }
def dmtextReturnsRow : OpenClaim := { program := "ythnflhimcmdnbaa", sum := "46cabfd573419d02d3daf16cd502a59c2dd5b5cba462dc0b6459c243c9553240", func := "barscan/barscanlaw24.DmtextReturns", spec := "dmtextReturns", apart := false }
def DmtextReturnsSaid : Prop := dmtextReturnsRow.holds Try.pinned (OpenSpec.ofChange dmtextReturnsSpec)

/-- ITS FALSE NEIGHBOUR: 'it returns false'. Refute it at one input. -/
def dmtextReturnsWrong : ChangeSpec := { name := "dmtextReturns", fn := fun _ => fun
  | [d1, d2] => { results := [.lit (.bool false)], args := [d1, d2] }
  | _ => none }
def DmtextReturnsWrongFalsely : Prop := dmtextReturnsRow.holds Try.pinned (OpenSpec.ofChange dmtextReturnsWrong)

/-- 'barscanlaw24.DmtextMinimal': WHATEVER THE INPUT: true; the input reads as it did. -/
def dmtextMinimalSpec : ChangeSpec := { name := "dmtextMinimal", fn := fun _ => fun
  | [d] => { results := [.lit (.bool true)], args := [d] }
  | _ => none }
def dmtextMinimalRow : OpenClaim := { program := "ythnflhimcmdnbaa", sum := "46cabfd573419d02d3daf16cd502a59c2dd5b5cba462dc0b6459c243c9553240", func := "barscan/barscanlaw24.DmtextMinimal", spec := "dmtextMinimal", apart := false }
def DmtextMinimalSaid : Prop := dmtextMinimalRow.holds Try.pinned (OpenSpec.ofChange dmtextMinimalSpec)

/-- ITS FALSE NEIGHBOUR: 'it returns false'. Refute it at one input. -/
def dmtextMinimalWrong : ChangeSpec := { name := "dmtextMinimal", fn := fun _ => fun
  | [d] => { results := [.lit (.bool false)], args := [d] }
  | _ => none }
def DmtextMinimalWrongFalsely : Prop := dmtextMinimalRow.holds Try.pinned (OpenSpec.ofChange dmtextMinimalWrong)

/-- 'barscanlaw24.DmtextJoins': WHATEVER THE INPUT: true; the input reads as it did. -/
def dmtextJoinsSpec : ChangeSpec := { name := "dmtextJoins", fn := fun _ => fun
  | [d1, d2] => { results := [.lit (.bool true)], args := [d1, d2] }
  | _ => none }
def dmtextJoinsRow : OpenClaim := { program := "ythnflhimcmdnbaa", sum := "46cabfd573419d02d3daf16cd502a59c2dd5b5cba462dc0b6459c243c9553240", func := "barscan/barscanlaw24.DmtextJoins", spec := "dmtextJoins", apart := false }
def DmtextJoinsSaid : Prop := dmtextJoinsRow.holds Try.pinned (OpenSpec.ofChange dmtextJoinsSpec)

/-- ITS FALSE NEIGHBOUR: 'it returns false'. Refute it at one input. -/
def dmtextJoinsWrong : ChangeSpec := { name := "dmtextJoins", fn := fun _ => fun
  | [d1, d2] => { results := [.lit (.bool false)], args := [d1, d2] }
  | _ => none }
def DmtextJoinsWrongFalsely : Prop := dmtextJoinsRow.holds Try.pinned (OpenSpec.ofChange dmtextJoinsWrong)

/-- 'barscanlaw24.DmtextLong': WHATEVER THE INPUT: true; the input reads as it did. -/
def dmtextLongSpec : ChangeSpec := { name := "dmtextLong", fn := fun _ => fun
  | [d] => { results := [.lit (.bool true)], args := [d] }
  | _ => none }
def dmtextLongRow : OpenClaim := { program := "ythnflhimcmdnbaa", sum := "46cabfd573419d02d3daf16cd502a59c2dd5b5cba462dc0b6459c243c9553240", func := "barscan/barscanlaw24.DmtextLong", spec := "dmtextLong", apart := false }
def DmtextLongSaid : Prop := dmtextLongRow.holds Try.pinned (OpenSpec.ofChange dmtextLongSpec)

/-- ITS FALSE NEIGHBOUR: 'it returns false'. Refute it at one input. -/
def dmtextLongWrong : ChangeSpec := { name := "dmtextLong", fn := fun _ => fun
  | [d] => { results := [.lit (.bool false)], args := [d] }
  | _ => none }
def DmtextLongWrongFalsely : Prop := dmtextLongRow.holds Try.pinned (OpenSpec.ofChange dmtextLongWrong)

/- THE SECOND FORM. 'bulk': how many values and letters a reading holds, each counted each time it is reached (what is shared counts as often as it is met; a slice's spare places count too). A statement '..UptoSaid' is the law's where the arguments, and the package variables that the reading takes, are together of bulk at most 1048576: NARROWER than '..Said'. Prove '..Said' where nothing that the law and all that it calls make is longer than what came in: it says more and counts as full. Else prove '..UptoSaid'. A law counts once. -/
mutual
def uptoBulk {H : Type} : DataW H → Nat
  | .lit (.string bytes) => bytes.length + 1
  | .lit _ => 1
  | .nil => 1
  | .ptr d => uptoBulk d + 1
  | .slice elems spare => uptoBulkAll elems + uptoBulkAll spare + 1
  | .agg parts => uptoBulkAll parts + 1
  | .iface _ d => uptoBulk d + 1
  | .map entries => uptoBulkEntries entries + 1
  | .held _ => 1
def uptoBulkAll {H : Type} : List (DataW H) → Nat
  | [] => 0
  | d :: r => uptoBulk d + uptoBulkAll r
def uptoBulkEntries {H : Type} : List (Lit × DataW H) → Nat
  | [] => 0
  | x :: r => uptoBulkEntry x + uptoBulkEntries r
def uptoBulkEntry {H : Type} : Lit × DataW H → Nat
  | (.string bytes, d) => bytes.length + uptoBulk d + 1
  | (_, d) => uptoBulk d + 1
 end
def uptoSmall : (H : Type) → List (DataW H) → Bool := fun _ ds => decide (uptoBulkAll ds ≤ 1048576)
def OpenSpec.upto (s : _root_.Go.ChangeSpec) : _root_.Go.OpenSpec := { _root_.Go.OpenSpec.ofChange s with cond := some uptoSmall }

/-- 'barscanlaw24.DmtextEncodes', WHERE WHAT IT READS IS OF BULK AT MOST 1048576: true; the input reads as it did. -/
def dmtextEncodesUptoRow : OpenClaim := { program := "ythnflhimcmdnbaa", sum := "46cabfd573419d02d3daf16cd502a59c2dd5b5cba462dc0b6459c243c9553240", func := "barscan/barscanlaw24.DmtextEncodes", spec := "dmtextEncodes", apart := false, narrowed := true }
def DmtextEncodesUptoSaid : Prop := dmtextEncodesUptoRow.holds Try.pinned (OpenSpec.upto dmtextEncodesSpec)

/-- 'barscanlaw24.DmtextPads', WHERE WHAT IT READS IS OF BULK AT MOST 1048576: true; the input reads as it did. -/
def dmtextPadsUptoRow : OpenClaim := { program := "ythnflhimcmdnbaa", sum := "46cabfd573419d02d3daf16cd502a59c2dd5b5cba462dc0b6459c243c9553240", func := "barscan/barscanlaw24.DmtextPads", spec := "dmtextPads", apart := false, narrowed := true }
def DmtextPadsUptoSaid : Prop := dmtextPadsUptoRow.holds Try.pinned (OpenSpec.upto dmtextPadsSpec)

/-- 'barscanlaw24.DmtextReturns', WHERE WHAT IT READS IS OF BULK AT MOST 1048576: true; the input reads as it did. -/
def dmtextReturnsUptoRow : OpenClaim := { program := "ythnflhimcmdnbaa", sum := "46cabfd573419d02d3daf16cd502a59c2dd5b5cba462dc0b6459c243c9553240", func := "barscan/barscanlaw24.DmtextReturns", spec := "dmtextReturns", apart := false, narrowed := true }
def DmtextReturnsUptoSaid : Prop := dmtextReturnsUptoRow.holds Try.pinned (OpenSpec.upto dmtextReturnsSpec)

/-- 'barscanlaw24.DmtextMinimal', WHERE WHAT IT READS IS OF BULK AT MOST 1048576: true; the input reads as it did. -/
def dmtextMinimalUptoRow : OpenClaim := { program := "ythnflhimcmdnbaa", sum := "46cabfd573419d02d3daf16cd502a59c2dd5b5cba462dc0b6459c243c9553240", func := "barscan/barscanlaw24.DmtextMinimal", spec := "dmtextMinimal", apart := false, narrowed := true }
def DmtextMinimalUptoSaid : Prop := dmtextMinimalUptoRow.holds Try.pinned (OpenSpec.upto dmtextMinimalSpec)

/-- 'barscanlaw24.DmtextJoins', WHERE WHAT IT READS IS OF BULK AT MOST 1048576: true; the input reads as it did. -/
def dmtextJoinsUptoRow : OpenClaim := { program := "ythnflhimcmdnbaa", sum := "46cabfd573419d02d3daf16cd502a59c2dd5b5cba462dc0b6459c243c9553240", func := "barscan/barscanlaw24.DmtextJoins", spec := "dmtextJoins", apart := false, narrowed := true }
def DmtextJoinsUptoSaid : Prop := dmtextJoinsUptoRow.holds Try.pinned (OpenSpec.upto dmtextJoinsSpec)

/-- 'barscanlaw24.DmtextLong', WHERE WHAT IT READS IS OF BULK AT MOST 1048576: true; the input reads as it did. -/
def dmtextLongUptoRow : OpenClaim := { program := "ythnflhimcmdnbaa", sum := "46cabfd573419d02d3daf16cd502a59c2dd5b5cba462dc0b6459c243c9553240", func := "barscan/barscanlaw24.DmtextLong", spec := "dmtextLong", apart := false, narrowed := true }
def DmtextLongUptoSaid : Prop := dmtextLongUptoRow.holds Try.pinned (OpenSpec.upto dmtextLongSpec)

end Rows
end Go.Proofs.Ythnflhimcmdnbaa
