/-
  No cell of these rows narrows 'for every input' (looked for: loops, veiled, ifaces, maps, wideKeys, modest, calm, conditions, laid).
  DERIVED. THE GIVEN ROWS OF THIS SEAT. 5 by the template 'for every input the law returns true; each argument reads behind the call as it read before'; 0 by the template 'total and deterministic' (their statements: YtkeagffmmhllcaaTotals.lean).
  GIVEN WITH THE SEED: the statements are not yours to turn. If you find one false, say at which input.
  Laid BY PROGRAM, IN A SANDBOX (cutbox-rows.mjs): the forced cells as the released guide's own fill.sh prints them over the translation 2ada91175ee48fcb… (all of the seat's roots in one cut). By AI agents, Wed Nov 11 2026. No macro, syntax, notation, axiom, sorry.
-/
import Derived.Test.YtkeagffmmhllcaaChecked
import GoSem.Claim
import GoSem.ClaimJoined
import GoSem.ClaimMapViews
import Derived.JoinedTies
import Derived.KernelRfl
namespace Go.Proofs.Ytkeagffmmhllcaa
/- THE CELL 'sum', in the pinned program and in every row, IS THE sha256 OF THE DUMP (.gsa) THAT YtkeagffmmhllcaaProg.lean LOADS. Nothing in Lean hashes anything: it is a label: what it is worth is what the hold of that sum in a sandbox is worth. -/
noncomputable def Try.pinned : Pinned := { name := "ytkeagffmmhllcaa", sum := "2ada91175ee48fcbd315016189cd146e8b58a3b302b17350ef050cbb430c0524", checked := Try.checked }
namespace Rows
def none {H : Type} : Left H := { results := [], args := [] }

/-- 'barscanlaw19.QrblocksSplits': WHATEVER THE INPUT: true; the input reads as it did. -/
def qrblocksSplitsSpec : ChangeSpec := { name := "qrblocksSplits", fn := fun _ => fun
  | [d1, d2, d3] => { results := [.lit (.bool true)], args := [d1, d2, d3] }
  | _ => none }
def qrblocksSplitsRow : OpenClaim := { program := "ytkeagffmmhllcaa", sum := "2ada91175ee48fcbd315016189cd146e8b58a3b302b17350ef050cbb430c0524", func := "barscan/barscanlaw19.QrblocksSplits", spec := "qrblocksSplits", unfollowed := true, recurses := true, apart := false }
def QrblocksSplitsSaid : Prop := qrblocksSplitsRow.holds Try.pinned (OpenSpec.ofChange qrblocksSplitsSpec)

/-- ITS FALSE NEIGHBOUR: 'it returns false'. Refute it at one input. -/
def qrblocksSplitsWrong : ChangeSpec := { name := "qrblocksSplits", fn := fun _ => fun
  | [d1, d2, d3] => { results := [.lit (.bool false)], args := [d1, d2, d3] }
  | _ => none }
def QrblocksSplitsWrongFalsely : Prop := qrblocksSplitsRow.holds Try.pinned (OpenSpec.ofChange qrblocksSplitsWrong)

/-- 'barscanlaw19.QrblocksPlaces': WHATEVER THE INPUT: true; the input reads as it did. -/
def qrblocksPlacesSpec : ChangeSpec := { name := "qrblocksPlaces", fn := fun _ => fun
  | [d1, d2] => { results := [.lit (.bool true)], args := [d1, d2] }
  | _ => none }
def qrblocksPlacesRow : OpenClaim := { program := "ytkeagffmmhllcaa", sum := "2ada91175ee48fcbd315016189cd146e8b58a3b302b17350ef050cbb430c0524", func := "barscan/barscanlaw19.QrblocksPlaces", spec := "qrblocksPlaces", unfollowed := true, recurses := true, apart := false }
def QrblocksPlacesSaid : Prop := qrblocksPlacesRow.holds Try.pinned (OpenSpec.ofChange qrblocksPlacesSpec)

/-- ITS FALSE NEIGHBOUR: 'it returns false'. Refute it at one input. -/
def qrblocksPlacesWrong : ChangeSpec := { name := "qrblocksPlaces", fn := fun _ => fun
  | [d1, d2] => { results := [.lit (.bool false)], args := [d1, d2] }
  | _ => none }
def QrblocksPlacesWrongFalsely : Prop := qrblocksPlacesRow.holds Try.pinned (OpenSpec.ofChange qrblocksPlacesWrong)

/-- 'barscanlaw19.QrblocksCorrects': WHATEVER THE INPUT: true; the input reads as it did. -/
def qrblocksCorrectsSpec : ChangeSpec := { name := "qrblocksCorrects", fn := fun _ => fun
  | [d] => { results := [.lit (.bool true)], args := [d] }
  | _ => none }
def qrblocksCorrectsRow : OpenClaim := { program := "ytkeagffmmhllcaa", sum := "2ada91175ee48fcbd315016189cd146e8b58a3b302b17350ef050cbb430c0524", func := "barscan/barscanlaw19.QrblocksCorrects", spec := "qrblocksCorrects", unfollowed := true, recurses := true, apart := false }
def QrblocksCorrectsSaid : Prop := qrblocksCorrectsRow.holds Try.pinned (OpenSpec.ofChange qrblocksCorrectsSpec)

/-- ITS FALSE NEIGHBOUR: 'it returns false'. Refute it at one input. -/
def qrblocksCorrectsWrong : ChangeSpec := { name := "qrblocksCorrects", fn := fun _ => fun
  | [d] => { results := [.lit (.bool false)], args := [d] }
  | _ => none }
def QrblocksCorrectsWrongFalsely : Prop := qrblocksCorrectsRow.holds Try.pinned (OpenSpec.ofChange qrblocksCorrectsWrong)

/-- 'barscanlaw19.QrblocksDetects': WHATEVER THE INPUT: true; the input reads as it did. -/
def qrblocksDetectsSpec : ChangeSpec := { name := "qrblocksDetects", fn := fun _ => fun
  | [d1, d2, d3, d4] => { results := [.lit (.bool true)], args := [d1, d2, d3, d4] }
  | _ => none }
def qrblocksDetectsRow : OpenClaim := { program := "ytkeagffmmhllcaa", sum := "2ada91175ee48fcbd315016189cd146e8b58a3b302b17350ef050cbb430c0524", func := "barscan/barscanlaw19.QrblocksDetects", spec := "qrblocksDetects", unfollowed := true, recurses := true, apart := false }
def QrblocksDetectsSaid : Prop := qrblocksDetectsRow.holds Try.pinned (OpenSpec.ofChange qrblocksDetectsSpec)

/-- ITS FALSE NEIGHBOUR: 'it returns false'. Refute it at one input. -/
def qrblocksDetectsWrong : ChangeSpec := { name := "qrblocksDetects", fn := fun _ => fun
  | [d1, d2, d3, d4] => { results := [.lit (.bool false)], args := [d1, d2, d3, d4] }
  | _ => none }
def QrblocksDetectsWrongFalsely : Prop := qrblocksDetectsRow.holds Try.pinned (OpenSpec.ofChange qrblocksDetectsWrong)

/-- 'barscanlaw19.QrblocksBursts': WHATEVER THE INPUT: true; the input reads as it did. -/
def qrblocksBurstsSpec : ChangeSpec := { name := "qrblocksBursts", fn := fun _ => fun
  | [d1, d2, d3] => { results := [.lit (.bool true)], args := [d1, d2, d3] }
  | _ => none }
def qrblocksBurstsRow : OpenClaim := { program := "ytkeagffmmhllcaa", sum := "2ada91175ee48fcbd315016189cd146e8b58a3b302b17350ef050cbb430c0524", func := "barscan/barscanlaw19.QrblocksBursts", spec := "qrblocksBursts", unfollowed := true, recurses := true, apart := false }
def QrblocksBurstsSaid : Prop := qrblocksBurstsRow.holds Try.pinned (OpenSpec.ofChange qrblocksBurstsSpec)

/-- ITS FALSE NEIGHBOUR: 'it returns false'. Refute it at one input. -/
def qrblocksBurstsWrong : ChangeSpec := { name := "qrblocksBursts", fn := fun _ => fun
  | [d1, d2, d3] => { results := [.lit (.bool false)], args := [d1, d2, d3] }
  | _ => none }
def QrblocksBurstsWrongFalsely : Prop := qrblocksBurstsRow.holds Try.pinned (OpenSpec.ofChange qrblocksBurstsWrong)

/- THE SECOND FORM. 'bulk': how many values and letters a reading holds, each counted each time it is reached (what is shared counts as often as it is met; a slice's spare places count too). A statement '..UptoSaid' is the law's where the arguments, and the package variables that the reading takes, are together of bulk at most 1048576: NARROWER than '..Said'. Prove '..Said' where nothing that the law and all that it calls make is longer than what came in: it says more and counts as full. Else prove '..UptoSaid'. A law counts once. -/
mutual
def uptoBulk {H : Type} : DataW H → Nat
  | .lit (.string bytes) => bytes.length + 1
  | .lit _ => 1
  | .nil => 1
  | .ptr d => uptoBulk d + 1
  | .slice elems spare => uptoBulkAll elems + uptoBulkAll spare + 1
  | .agg parts => uptoBulkAll parts + 1
  | .iface _ d => uptoBulk d + 1
  | .map entries => uptoBulkEntries entries + 1
  | .held _ => 1
def uptoBulkAll {H : Type} : List (DataW H) → Nat
  | [] => 0
  | d :: r => uptoBulk d + uptoBulkAll r
def uptoBulkEntries {H : Type} : List (Lit × DataW H) → Nat
  | [] => 0
  | x :: r => uptoBulkEntry x + uptoBulkEntries r
def uptoBulkEntry {H : Type} : Lit × DataW H → Nat
  | (.string bytes, d) => bytes.length + uptoBulk d + 1
  | (_, d) => uptoBulk d + 1
 end
def uptoSmall : (H : Type) → List (DataW H) → Bool := fun _ ds => decide (uptoBulkAll ds ≤ 1048576)
def OpenSpec.upto (s : _root_.Go.ChangeSpec) : _root_.Go.OpenSpec := { _root_.Go.OpenSpec.ofChange s with cond := some uptoSmall }

/-- 'barscanlaw19.QrblocksSplits', WHERE WHAT IT READS IS OF BULK AT MOST 1048576: true; the input reads as it did. -/
def qrblocksSplitsUptoRow : OpenClaim := { program := "ytkeagffmmhllcaa", sum := "2ada91175ee48fcbd315016189cd146e8b58a3b302b17350ef050cbb430c0524", func := "barscan/barscanlaw19.QrblocksSplits", spec := "qrblocksSplits", unfollowed := true, recurses := true, apart := false, narrowed := true }
def QrblocksSplitsUptoSaid : Prop := qrblocksSplitsUptoRow.holds Try.pinned (OpenSpec.upto qrblocksSplitsSpec)

/-- 'barscanlaw19.QrblocksPlaces', WHERE WHAT IT READS IS OF BULK AT MOST 1048576: true; the input reads as it did. -/
def qrblocksPlacesUptoRow : OpenClaim := { program := "ytkeagffmmhllcaa", sum := "2ada91175ee48fcbd315016189cd146e8b58a3b302b17350ef050cbb430c0524", func := "barscan/barscanlaw19.QrblocksPlaces", spec := "qrblocksPlaces", unfollowed := true, recurses := true, apart := false, narrowed := true }
def QrblocksPlacesUptoSaid : Prop := qrblocksPlacesUptoRow.holds Try.pinned (OpenSpec.upto qrblocksPlacesSpec)

/-- 'barscanlaw19.QrblocksCorrects', WHERE WHAT IT READS IS OF BULK AT MOST 1048576: true; the input reads as it did. -/
def qrblocksCorrectsUptoRow : OpenClaim := { program := "ytkeagffmmhllcaa", sum := "2ada91175ee48fcbd315016189cd146e8b58a3b302b17350ef050cbb430c0524", func := "barscan/barscanlaw19.QrblocksCorrects", spec := "qrblocksCorrects", unfollowed := true, recurses := true, apart := false, narrowed := true }
def QrblocksCorrectsUptoSaid : Prop := qrblocksCorrectsUptoRow.holds Try.pinned (OpenSpec.upto qrblocksCorrectsSpec)

/-- 'barscanlaw19.QrblocksDetects', WHERE WHAT IT READS IS OF BULK AT MOST 1048576: true; the input reads as it did. -/
def qrblocksDetectsUptoRow : OpenClaim := { program := "ytkeagffmmhllcaa", sum := "2ada91175ee48fcbd315016189cd146e8b58a3b302b17350ef050cbb430c0524", func := "barscan/barscanlaw19.QrblocksDetects", spec := "qrblocksDetects", unfollowed := true, recurses := true, apart := false, narrowed := true }
def QrblocksDetectsUptoSaid : Prop := qrblocksDetectsUptoRow.holds Try.pinned (OpenSpec.upto qrblocksDetectsSpec)

/-- 'barscanlaw19.QrblocksBursts', WHERE WHAT IT READS IS OF BULK AT MOST 1048576: true; the input reads as it did. -/
def qrblocksBurstsUptoRow : OpenClaim := { program := "ytkeagffmmhllcaa", sum := "2ada91175ee48fcbd315016189cd146e8b58a3b302b17350ef050cbb430c0524", func := "barscan/barscanlaw19.QrblocksBursts", spec := "qrblocksBursts", unfollowed := true, recurses := true, apart := false, narrowed := true }
def QrblocksBurstsUptoSaid : Prop := qrblocksBurstsUptoRow.holds Try.pinned (OpenSpec.upto qrblocksBurstsSpec)

end Rows
end Go.Proofs.Ytkeagffmmhllcaa
