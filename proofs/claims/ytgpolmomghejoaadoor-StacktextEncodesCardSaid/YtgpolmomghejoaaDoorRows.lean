/-
  NARROWER THAN 'FOR EVERY INPUT', by the rows' own cells (each row's printed sentence says how): StacktextNumerics: laid · StacktextDecodes: laid · StacktextEncodes: laid · StacktextLimits: laid · StacktextRoundTrip: laid · StacktextDigits: laid · StacktextMinimal: laid · StacktextJoins: laid · StacktextBounds: laid.
  DERIVED. THE GIVEN ROWS OF THIS SEAT. 9 by the template 'for every input the law returns true; each argument reads behind the call as it read before'; 0 by the template 'total and deterministic' (their statements: YtgpolmomghejoaaDoorTotals.lean).
  GIVEN WITH THE SEED: the statements are not yours to turn. If you find one false, say at which input.
  Laid BY PROGRAM, IN A SANDBOX (cutbox-rows.mjs): the forced cells as the released guide's own fill.sh prints them over the translation 435b58a59f6ce699… (all of the seat's roots in one cut). By AI agents, Wed Nov 11 2026. No macro, syntax, notation, axiom, sorry.
-/
import Derived.Test.YtgpolmomghejoaaDoorChecked
import GoSem.Claim
import GoSem.ClaimJoined
import GoSem.ClaimMapViews
import Derived.JoinedTies
import Derived.KernelRfl
namespace Go.Proofs.YtgpolmomghejoaaDoor
/- THE CELL 'sum', in the pinned program and in every row, IS THE sha256 OF THE DUMP (.gsa) THAT YtgpolmomghejoaaDoorProg.lean LOADS. Nothing in Lean hashes anything: it is a label: what it is worth is what the hold of that sum in a sandbox is worth. -/
noncomputable def Tryd.pinned : Pinned := { name := "ytgpolmomghejoaadoor", sum := "435b58a59f6ce69979da046bee167e431bbda2255821dbe64265ba41d23e4caf", checked := Tryd.checked }
namespace Rows
def none {H : Type} : Left H := { results := [], args := [] }

/- WHAT THE LISTED PACKAGE-LEVEL VARIABLES READ AS WHEN THE CALL BEGINS. Each datum BY PROGRAM (the guide's laid-datum.mjs) off the statement by which the dump's own 'gosem.cut.vars' lays the variable. In a bare row this is a premise. The card (YtgpolmomghejoaaDoorCards.lean) ties it to the program's text. -/
def laid_math_bits_deBruijn32tab {H : Type} : DataW H := .agg [.lit (.int .u8 0), .lit (.int .u8 1), .lit (.int .u8 28), .lit (.int .u8 2), .lit (.int .u8 29), .lit (.int .u8 14), .lit (.int .u8 24), .lit (.int .u8 3), .lit (.int .u8 30), .lit (.int .u8 22), .lit (.int .u8 20), .lit (.int .u8 15), .lit (.int .u8 25), .lit (.int .u8 17), .lit (.int .u8 4), .lit (.int .u8 8), .lit (.int .u8 31), .lit (.int .u8 27), .lit (.int .u8 13), .lit (.int .u8 23), .lit (.int .u8 21), .lit (.int .u8 19), .lit (.int .u8 16), .lit (.int .u8 7), .lit (.int .u8 26), .lit (.int .u8 12), .lit (.int .u8 18), .lit (.int .u8 6), .lit (.int .u8 11), .lit (.int .u8 5), .lit (.int .u8 10), .lit (.int .u8 9)]
def laid_math_bits_deBruijn64tab {H : Type} : DataW H := .agg [.lit (.int .u8 0), .lit (.int .u8 1), .lit (.int .u8 56), .lit (.int .u8 2), .lit (.int .u8 57), .lit (.int .u8 49), .lit (.int .u8 28), .lit (.int .u8 3), .lit (.int .u8 61), .lit (.int .u8 58), .lit (.int .u8 42), .lit (.int .u8 50), .lit (.int .u8 38), .lit (.int .u8 29), .lit (.int .u8 17), .lit (.int .u8 4), .lit (.int .u8 62), .lit (.int .u8 47), .lit (.int .u8 59), .lit (.int .u8 36), .lit (.int .u8 45), .lit (.int .u8 43), .lit (.int .u8 51), .lit (.int .u8 22), .lit (.int .u8 53), .lit (.int .u8 39), .lit (.int .u8 33), .lit (.int .u8 30), .lit (.int .u8 24), .lit (.int .u8 18), .lit (.int .u8 12), .lit (.int .u8 5), .lit (.int .u8 63), .lit (.int .u8 55), .lit (.int .u8 48), .lit (.int .u8 27), .lit (.int .u8 60), .lit (.int .u8 41), .lit (.int .u8 37), .lit (.int .u8 16), .lit (.int .u8 46), .lit (.int .u8 35), .lit (.int .u8 44), .lit (.int .u8 21), .lit (.int .u8 52), .lit (.int .u8 32), .lit (.int .u8 23), .lit (.int .u8 11), .lit (.int .u8 54), .lit (.int .u8 26), .lit (.int .u8 40), .lit (.int .u8 15), .lit (.int .u8 34), .lit (.int .u8 20), .lit (.int .u8 31), .lit (.int .u8 10), .lit (.int .u8 25), .lit (.int .u8 14), .lit (.int .u8 19), .lit (.int .u8 9), .lit (.int .u8 13), .lit (.int .u8 8), .lit (.int .u8 7), .lit (.int .u8 6)]
def laid_internal_strconv_uint64pow10 {H : Type} : DataW H := .agg [.lit (.int .u64 1), .lit (.int .u64 10), .lit (.int .u64 100), .lit (.int .u64 1000), .lit (.int .u64 10000), .lit (.int .u64 100000), .lit (.int .u64 1000000), .lit (.int .u64 10000000), .lit (.int .u64 100000000), .lit (.int .u64 1000000000), .lit (.int .u64 10000000000), .lit (.int .u64 100000000000), .lit (.int .u64 1000000000000), .lit (.int .u64 10000000000000), .lit (.int .u64 100000000000000), .lit (.int .u64 1000000000000000), .lit (.int .u64 10000000000000000), .lit (.int .u64 100000000000000000), .lit (.int .u64 1000000000000000000), .lit (.int .u64 10000000000000000000)]

/-- 'barscanlaw29.StacktextNumerics': WHATEVER THE INPUT: true; the input reads as it did. -/
def stacktextNumericsSpec : ChangeSpec := { name := "stacktextNumerics", fn := fun _ => fun
  | [d1, d2] => { results := [.lit (.bool true)], args := [d1, d2] }
  | _ => none }
def stacktextNumericsRow : OpenClaim := { program := "ytgpolmomghejoaadoor", sum := "435b58a59f6ce69979da046bee167e431bbda2255821dbe64265ba41d23e4caf", func := "barscan/barscanlaw29.StacktextNumerics", spec := "stacktextNumerics", inPlace := ["internal/abi.NoEscape", "internal/bytealg.MakeNoZero"], unfollowed := true, recurses := true, named := ["internal/strconv.uint64pow10", "math/bits.deBruijn32tab", "math/bits.deBruijn64tab"], plainKeys := false, apart := false, laid := [("math/bits.deBruijn32tab", laid_math_bits_deBruijn32tab), ("math/bits.deBruijn64tab", laid_math_bits_deBruijn64tab), ("internal/strconv.uint64pow10", laid_internal_strconv_uint64pow10)] }
def StacktextNumericsSaid : Prop := stacktextNumericsRow.holds Tryd.pinned (OpenSpec.ofChange stacktextNumericsSpec)

/-- ITS FALSE NEIGHBOUR: 'it returns false'. Refute it at one input. -/
def stacktextNumericsWrong : ChangeSpec := { name := "stacktextNumerics", fn := fun _ => fun
  | [d1, d2] => { results := [.lit (.bool false)], args := [d1, d2] }
  | _ => none }
def StacktextNumericsWrongFalsely : Prop := stacktextNumericsRow.holds Tryd.pinned (OpenSpec.ofChange stacktextNumericsWrong)

/-- 'barscanlaw29.StacktextDecodes': WHATEVER THE INPUT: true; the input reads as it did. -/
def stacktextDecodesSpec : ChangeSpec := { name := "stacktextDecodes", fn := fun _ => fun
  | [d] => { results := [.lit (.bool true)], args := [d] }
  | _ => none }
def stacktextDecodesRow : OpenClaim := { program := "ytgpolmomghejoaadoor", sum := "435b58a59f6ce69979da046bee167e431bbda2255821dbe64265ba41d23e4caf", func := "barscan/barscanlaw29.StacktextDecodes", spec := "stacktextDecodes", inPlace := ["internal/abi.NoEscape", "internal/bytealg.MakeNoZero"], unfollowed := true, recurses := true, named := ["internal/strconv.uint64pow10", "math/bits.deBruijn32tab", "math/bits.deBruijn64tab"], plainKeys := false, apart := false, laid := [("math/bits.deBruijn32tab", laid_math_bits_deBruijn32tab), ("math/bits.deBruijn64tab", laid_math_bits_deBruijn64tab), ("internal/strconv.uint64pow10", laid_internal_strconv_uint64pow10)] }
def StacktextDecodesSaid : Prop := stacktextDecodesRow.holds Tryd.pinned (OpenSpec.ofChange stacktextDecodesSpec)

/-- ITS FALSE NEIGHBOUR: 'it returns false'. Refute it at one input. -/
def stacktextDecodesWrong : ChangeSpec := { name := "stacktextDecodes", fn := fun _ => fun
  | [d] => { results := [.lit (.bool false)], args := [d] }
  | _ => none }
def StacktextDecodesWrongFalsely : Prop := stacktextDecodesRow.holds Tryd.pinned (OpenSpec.ofChange stacktextDecodesWrong)

/-- 'barscanlaw29.StacktextEncodes': WHATEVER THE INPUT: true; the input reads as it did. -/
def stacktextEncodesSpec : ChangeSpec := { name := "stacktextEncodes", fn := fun _ => fun
  | [d] => { results := [.lit (.bool true)], args := [d] }
  | _ => none }
def stacktextEncodesRow : OpenClaim := { program := "ytgpolmomghejoaadoor", sum := "435b58a59f6ce69979da046bee167e431bbda2255821dbe64265ba41d23e4caf", func := "barscan/barscanlaw29.StacktextEncodes", spec := "stacktextEncodes", inPlace := ["internal/abi.NoEscape", "internal/bytealg.MakeNoZero"], unfollowed := true, recurses := true, named := ["internal/strconv.uint64pow10", "math/bits.deBruijn32tab", "math/bits.deBruijn64tab"], plainKeys := false, apart := false, laid := [("math/bits.deBruijn32tab", laid_math_bits_deBruijn32tab), ("math/bits.deBruijn64tab", laid_math_bits_deBruijn64tab), ("internal/strconv.uint64pow10", laid_internal_strconv_uint64pow10)] }
def StacktextEncodesSaid : Prop := stacktextEncodesRow.holds Tryd.pinned (OpenSpec.ofChange stacktextEncodesSpec)

/-- ITS FALSE NEIGHBOUR: 'it returns false'. Refute it at one input. -/
def stacktextEncodesWrong : ChangeSpec := { name := "stacktextEncodes", fn := fun _ => fun
  | [d] => { results := [.lit (.bool false)], args := [d] }
  | _ => none }
def StacktextEncodesWrongFalsely : Prop := stacktextEncodesRow.holds Tryd.pinned (OpenSpec.ofChange stacktextEncodesWrong)

/-- 'barscanlaw29.StacktextLimits': WHATEVER THE INPUT: true; the input reads as it did. -/
def stacktextLimitsSpec : ChangeSpec := { name := "stacktextLimits", fn := fun _ => fun
  | [d] => { results := [.lit (.bool true)], args := [d] }
  | _ => none }
def stacktextLimitsRow : OpenClaim := { program := "ytgpolmomghejoaadoor", sum := "435b58a59f6ce69979da046bee167e431bbda2255821dbe64265ba41d23e4caf", func := "barscan/barscanlaw29.StacktextLimits", spec := "stacktextLimits", inPlace := ["internal/abi.NoEscape", "internal/bytealg.MakeNoZero"], unfollowed := true, recurses := true, named := ["internal/strconv.uint64pow10", "math/bits.deBruijn32tab", "math/bits.deBruijn64tab"], plainKeys := false, apart := false, laid := [("math/bits.deBruijn32tab", laid_math_bits_deBruijn32tab), ("math/bits.deBruijn64tab", laid_math_bits_deBruijn64tab), ("internal/strconv.uint64pow10", laid_internal_strconv_uint64pow10)] }
def StacktextLimitsSaid : Prop := stacktextLimitsRow.holds Tryd.pinned (OpenSpec.ofChange stacktextLimitsSpec)

/-- ITS FALSE NEIGHBOUR: 'it returns false'. Refute it at one input. -/
def stacktextLimitsWrong : ChangeSpec := { name := "stacktextLimits", fn := fun _ => fun
  | [d] => { results := [.lit (.bool false)], args := [d] }
  | _ => none }
def StacktextLimitsWrongFalsely : Prop := stacktextLimitsRow.holds Tryd.pinned (OpenSpec.ofChange stacktextLimitsWrong)

/-- 'barscanlaw29.StacktextRoundTrip': WHATEVER THE INPUT: true; the input reads as it did. -/
def stacktextRoundTripSpec : ChangeSpec := { name := "stacktextRoundTrip", fn := fun _ => fun
  | [d] => { results := [.lit (.bool true)], args := [d] }
  | _ => none }
def stacktextRoundTripRow : OpenClaim := { program := "ytgpolmomghejoaadoor", sum := "435b58a59f6ce69979da046bee167e431bbda2255821dbe64265ba41d23e4caf", func := "barscan/barscanlaw29.StacktextRoundTrip", spec := "stacktextRoundTrip", inPlace := ["internal/abi.NoEscape", "internal/bytealg.MakeNoZero"], unfollowed := true, recurses := true, named := ["internal/strconv.uint64pow10", "math/bits.deBruijn32tab", "math/bits.deBruijn64tab"], plainKeys := false, apart := false, laid := [("math/bits.deBruijn32tab", laid_math_bits_deBruijn32tab), ("math/bits.deBruijn64tab", laid_math_bits_deBruijn64tab), ("internal/strconv.uint64pow10", laid_internal_strconv_uint64pow10)] }
def StacktextRoundTripSaid : Prop := stacktextRoundTripRow.holds Tryd.pinned (OpenSpec.ofChange stacktextRoundTripSpec)

/-- ITS FALSE NEIGHBOUR: 'it returns false'. Refute it at one input. -/
def stacktextRoundTripWrong : ChangeSpec := { name := "stacktextRoundTrip", fn := fun _ => fun
  | [d] => { results := [.lit (.bool false)], args := [d] }
  | _ => none }
def StacktextRoundTripWrongFalsely : Prop := stacktextRoundTripRow.holds Tryd.pinned (OpenSpec.ofChange stacktextRoundTripWrong)

/-- 'barscanlaw29.StacktextDigits': WHATEVER THE INPUT: true; the input reads as it did. -/
def stacktextDigitsSpec : ChangeSpec := { name := "stacktextDigits", fn := fun _ => fun
  | [d1, d2] => { results := [.lit (.bool true)], args := [d1, d2] }
  | _ => none }
def stacktextDigitsRow : OpenClaim := { program := "ytgpolmomghejoaadoor", sum := "435b58a59f6ce69979da046bee167e431bbda2255821dbe64265ba41d23e4caf", func := "barscan/barscanlaw29.StacktextDigits", spec := "stacktextDigits", inPlace := ["internal/abi.NoEscape", "internal/bytealg.MakeNoZero"], unfollowed := true, recurses := true, named := ["internal/strconv.uint64pow10", "math/bits.deBruijn32tab", "math/bits.deBruijn64tab"], plainKeys := false, apart := false, laid := [("math/bits.deBruijn32tab", laid_math_bits_deBruijn32tab), ("math/bits.deBruijn64tab", laid_math_bits_deBruijn64tab), ("internal/strconv.uint64pow10", laid_internal_strconv_uint64pow10)] }
def StacktextDigitsSaid : Prop := stacktextDigitsRow.holds Tryd.pinned (OpenSpec.ofChange stacktextDigitsSpec)

/-- ITS FALSE NEIGHBOUR: 'it returns false'. Refute it at one input. -/
def stacktextDigitsWrong : ChangeSpec := { name := "stacktextDigits", fn := fun _ => fun
  | [d1, d2] => { results := [.lit (.bool false)], args := [d1, d2] }
  | _ => none }
def StacktextDigitsWrongFalsely : Prop := stacktextDigitsRow.holds Tryd.pinned (OpenSpec.ofChange stacktextDigitsWrong)

/-- 'barscanlaw29.StacktextMinimal': WHATEVER THE INPUT: true; the input reads as it did. -/
def stacktextMinimalSpec : ChangeSpec := { name := "stacktextMinimal", fn := fun _ => fun
  | [d] => { results := [.lit (.bool true)], args := [d] }
  | _ => none }
def stacktextMinimalRow : OpenClaim := { program := "ytgpolmomghejoaadoor", sum := "435b58a59f6ce69979da046bee167e431bbda2255821dbe64265ba41d23e4caf", func := "barscan/barscanlaw29.StacktextMinimal", spec := "stacktextMinimal", inPlace := ["internal/abi.NoEscape", "internal/bytealg.MakeNoZero"], unfollowed := true, recurses := true, named := ["internal/strconv.uint64pow10", "math/bits.deBruijn32tab", "math/bits.deBruijn64tab"], plainKeys := false, apart := false, laid := [("math/bits.deBruijn32tab", laid_math_bits_deBruijn32tab), ("math/bits.deBruijn64tab", laid_math_bits_deBruijn64tab), ("internal/strconv.uint64pow10", laid_internal_strconv_uint64pow10)] }
def StacktextMinimalSaid : Prop := stacktextMinimalRow.holds Tryd.pinned (OpenSpec.ofChange stacktextMinimalSpec)

/-- ITS FALSE NEIGHBOUR: 'it returns false'. Refute it at one input. -/
def stacktextMinimalWrong : ChangeSpec := { name := "stacktextMinimal", fn := fun _ => fun
  | [d] => { results := [.lit (.bool false)], args := [d] }
  | _ => none }
def StacktextMinimalWrongFalsely : Prop := stacktextMinimalRow.holds Tryd.pinned (OpenSpec.ofChange stacktextMinimalWrong)

/-- 'barscanlaw29.StacktextJoins': WHATEVER THE INPUT: true; the input reads as it did. -/
def stacktextJoinsSpec : ChangeSpec := { name := "stacktextJoins", fn := fun _ => fun
  | [d1, d2] => { results := [.lit (.bool true)], args := [d1, d2] }
  | _ => none }
def stacktextJoinsRow : OpenClaim := { program := "ytgpolmomghejoaadoor", sum := "435b58a59f6ce69979da046bee167e431bbda2255821dbe64265ba41d23e4caf", func := "barscan/barscanlaw29.StacktextJoins", spec := "stacktextJoins", inPlace := ["internal/abi.NoEscape", "internal/bytealg.MakeNoZero"], unfollowed := true, recurses := true, named := ["internal/strconv.uint64pow10", "math/bits.deBruijn32tab", "math/bits.deBruijn64tab"], plainKeys := false, apart := false, laid := [("math/bits.deBruijn32tab", laid_math_bits_deBruijn32tab), ("math/bits.deBruijn64tab", laid_math_bits_deBruijn64tab), ("internal/strconv.uint64pow10", laid_internal_strconv_uint64pow10)] }
def StacktextJoinsSaid : Prop := stacktextJoinsRow.holds Tryd.pinned (OpenSpec.ofChange stacktextJoinsSpec)

/-- ITS FALSE NEIGHBOUR: 'it returns false'. Refute it at one input. -/
def stacktextJoinsWrong : ChangeSpec := { name := "stacktextJoins", fn := fun _ => fun
  | [d1, d2] => { results := [.lit (.bool false)], args := [d1, d2] }
  | _ => none }
def StacktextJoinsWrongFalsely : Prop := stacktextJoinsRow.holds Tryd.pinned (OpenSpec.ofChange stacktextJoinsWrong)

/-- 'barscanlaw29.StacktextBounds': WHATEVER THE INPUT: true; the input reads as it did. -/
def stacktextBoundsSpec : ChangeSpec := { name := "stacktextBounds", fn := fun _ => fun
  | [d] => { results := [.lit (.bool true)], args := [d] }
  | _ => none }
def stacktextBoundsRow : OpenClaim := { program := "ytgpolmomghejoaadoor", sum := "435b58a59f6ce69979da046bee167e431bbda2255821dbe64265ba41d23e4caf", func := "barscan/barscanlaw29.StacktextBounds", spec := "stacktextBounds", inPlace := ["internal/abi.NoEscape", "internal/bytealg.MakeNoZero"], unfollowed := true, recurses := true, named := ["internal/strconv.uint64pow10", "math/bits.deBruijn32tab", "math/bits.deBruijn64tab"], plainKeys := false, apart := false, laid := [("math/bits.deBruijn32tab", laid_math_bits_deBruijn32tab), ("math/bits.deBruijn64tab", laid_math_bits_deBruijn64tab), ("internal/strconv.uint64pow10", laid_internal_strconv_uint64pow10)] }
def StacktextBoundsSaid : Prop := stacktextBoundsRow.holds Tryd.pinned (OpenSpec.ofChange stacktextBoundsSpec)

/-- ITS FALSE NEIGHBOUR: 'it returns false'. Refute it at one input. -/
def stacktextBoundsWrong : ChangeSpec := { name := "stacktextBounds", fn := fun _ => fun
  | [d] => { results := [.lit (.bool false)], args := [d] }
  | _ => none }
def StacktextBoundsWrongFalsely : Prop := stacktextBoundsRow.holds Tryd.pinned (OpenSpec.ofChange stacktextBoundsWrong)

/- THE SECOND FORM. 'bulk': how many values and letters a reading holds, each counted each time it is reached (what is shared counts as often as it is met; a slice's spare places count too). A statement '..UptoSaid' is the law's where the arguments, and the package variables that the reading takes, are together of bulk at most 1048576: NARROWER than '..Said'. Prove '..Said' where nothing that the law and all that it calls make is longer than what came in: it says more and counts as full. Else prove '..UptoSaid'. A law counts once. -/
mutual
def uptoBulk {H : Type} : DataW H → Nat
  | .lit (.string bytes) => bytes.length + 1
  | .lit _ => 1
  | .nil => 1
  | .ptr d => uptoBulk d + 1
  | .slice elems spare => uptoBulkAll elems + uptoBulkAll spare + 1
  | .agg parts => uptoBulkAll parts + 1
  | .iface _ d => uptoBulk d + 1
  | .map entries => uptoBulkEntries entries + 1
  | .held _ => 1
def uptoBulkAll {H : Type} : List (DataW H) → Nat
  | [] => 0
  | d :: r => uptoBulk d + uptoBulkAll r
def uptoBulkEntries {H : Type} : List (Lit × DataW H) → Nat
  | [] => 0
  | x :: r => uptoBulkEntry x + uptoBulkEntries r
def uptoBulkEntry {H : Type} : Lit × DataW H → Nat
  | (.string bytes, d) => bytes.length + uptoBulk d + 1
  | (_, d) => uptoBulk d + 1
 end
def uptoSmall : (H : Type) → List (DataW H) → Bool := fun _ ds => decide (uptoBulkAll ds ≤ 1048576)
def OpenSpec.upto (s : _root_.Go.ChangeSpec) : _root_.Go.OpenSpec := { _root_.Go.OpenSpec.ofChange s with cond := some uptoSmall }

/-- 'barscanlaw29.StacktextNumerics', WHERE WHAT IT READS IS OF BULK AT MOST 1048576: true; the input reads as it did. -/
def stacktextNumericsUptoRow : OpenClaim := { program := "ytgpolmomghejoaadoor", sum := "435b58a59f6ce69979da046bee167e431bbda2255821dbe64265ba41d23e4caf", func := "barscan/barscanlaw29.StacktextNumerics", spec := "stacktextNumerics", inPlace := ["internal/abi.NoEscape", "internal/bytealg.MakeNoZero"], unfollowed := true, recurses := true, named := ["internal/strconv.uint64pow10", "math/bits.deBruijn32tab", "math/bits.deBruijn64tab"], plainKeys := false, apart := false, laid := [("math/bits.deBruijn32tab", laid_math_bits_deBruijn32tab), ("math/bits.deBruijn64tab", laid_math_bits_deBruijn64tab), ("internal/strconv.uint64pow10", laid_internal_strconv_uint64pow10)], narrowed := true }
def StacktextNumericsUptoSaid : Prop := stacktextNumericsUptoRow.holds Tryd.pinned (OpenSpec.upto stacktextNumericsSpec)

/-- 'barscanlaw29.StacktextDecodes', WHERE WHAT IT READS IS OF BULK AT MOST 1048576: true; the input reads as it did. -/
def stacktextDecodesUptoRow : OpenClaim := { program := "ytgpolmomghejoaadoor", sum := "435b58a59f6ce69979da046bee167e431bbda2255821dbe64265ba41d23e4caf", func := "barscan/barscanlaw29.StacktextDecodes", spec := "stacktextDecodes", inPlace := ["internal/abi.NoEscape", "internal/bytealg.MakeNoZero"], unfollowed := true, recurses := true, named := ["internal/strconv.uint64pow10", "math/bits.deBruijn32tab", "math/bits.deBruijn64tab"], plainKeys := false, apart := false, laid := [("math/bits.deBruijn32tab", laid_math_bits_deBruijn32tab), ("math/bits.deBruijn64tab", laid_math_bits_deBruijn64tab), ("internal/strconv.uint64pow10", laid_internal_strconv_uint64pow10)], narrowed := true }
def StacktextDecodesUptoSaid : Prop := stacktextDecodesUptoRow.holds Tryd.pinned (OpenSpec.upto stacktextDecodesSpec)

/-- 'barscanlaw29.StacktextEncodes', WHERE WHAT IT READS IS OF BULK AT MOST 1048576: true; the input reads as it did. -/
def stacktextEncodesUptoRow : OpenClaim := { program := "ytgpolmomghejoaadoor", sum := "435b58a59f6ce69979da046bee167e431bbda2255821dbe64265ba41d23e4caf", func := "barscan/barscanlaw29.StacktextEncodes", spec := "stacktextEncodes", inPlace := ["internal/abi.NoEscape", "internal/bytealg.MakeNoZero"], unfollowed := true, recurses := true, named := ["internal/strconv.uint64pow10", "math/bits.deBruijn32tab", "math/bits.deBruijn64tab"], plainKeys := false, apart := false, laid := [("math/bits.deBruijn32tab", laid_math_bits_deBruijn32tab), ("math/bits.deBruijn64tab", laid_math_bits_deBruijn64tab), ("internal/strconv.uint64pow10", laid_internal_strconv_uint64pow10)], narrowed := true }
def StacktextEncodesUptoSaid : Prop := stacktextEncodesUptoRow.holds Tryd.pinned (OpenSpec.upto stacktextEncodesSpec)

/-- 'barscanlaw29.StacktextLimits', WHERE WHAT IT READS IS OF BULK AT MOST 1048576: true; the input reads as it did. -/
def stacktextLimitsUptoRow : OpenClaim := { program := "ytgpolmomghejoaadoor", sum := "435b58a59f6ce69979da046bee167e431bbda2255821dbe64265ba41d23e4caf", func := "barscan/barscanlaw29.StacktextLimits", spec := "stacktextLimits", inPlace := ["internal/abi.NoEscape", "internal/bytealg.MakeNoZero"], unfollowed := true, recurses := true, named := ["internal/strconv.uint64pow10", "math/bits.deBruijn32tab", "math/bits.deBruijn64tab"], plainKeys := false, apart := false, laid := [("math/bits.deBruijn32tab", laid_math_bits_deBruijn32tab), ("math/bits.deBruijn64tab", laid_math_bits_deBruijn64tab), ("internal/strconv.uint64pow10", laid_internal_strconv_uint64pow10)], narrowed := true }
def StacktextLimitsUptoSaid : Prop := stacktextLimitsUptoRow.holds Tryd.pinned (OpenSpec.upto stacktextLimitsSpec)

/-- 'barscanlaw29.StacktextRoundTrip', WHERE WHAT IT READS IS OF BULK AT MOST 1048576: true; the input reads as it did. -/
def stacktextRoundTripUptoRow : OpenClaim := { program := "ytgpolmomghejoaadoor", sum := "435b58a59f6ce69979da046bee167e431bbda2255821dbe64265ba41d23e4caf", func := "barscan/barscanlaw29.StacktextRoundTrip", spec := "stacktextRoundTrip", inPlace := ["internal/abi.NoEscape", "internal/bytealg.MakeNoZero"], unfollowed := true, recurses := true, named := ["internal/strconv.uint64pow10", "math/bits.deBruijn32tab", "math/bits.deBruijn64tab"], plainKeys := false, apart := false, laid := [("math/bits.deBruijn32tab", laid_math_bits_deBruijn32tab), ("math/bits.deBruijn64tab", laid_math_bits_deBruijn64tab), ("internal/strconv.uint64pow10", laid_internal_strconv_uint64pow10)], narrowed := true }
def StacktextRoundTripUptoSaid : Prop := stacktextRoundTripUptoRow.holds Tryd.pinned (OpenSpec.upto stacktextRoundTripSpec)

/-- 'barscanlaw29.StacktextDigits', WHERE WHAT IT READS IS OF BULK AT MOST 1048576: true; the input reads as it did. -/
def stacktextDigitsUptoRow : OpenClaim := { program := "ytgpolmomghejoaadoor", sum := "435b58a59f6ce69979da046bee167e431bbda2255821dbe64265ba41d23e4caf", func := "barscan/barscanlaw29.StacktextDigits", spec := "stacktextDigits", inPlace := ["internal/abi.NoEscape", "internal/bytealg.MakeNoZero"], unfollowed := true, recurses := true, named := ["internal/strconv.uint64pow10", "math/bits.deBruijn32tab", "math/bits.deBruijn64tab"], plainKeys := false, apart := false, laid := [("math/bits.deBruijn32tab", laid_math_bits_deBruijn32tab), ("math/bits.deBruijn64tab", laid_math_bits_deBruijn64tab), ("internal/strconv.uint64pow10", laid_internal_strconv_uint64pow10)], narrowed := true }
def StacktextDigitsUptoSaid : Prop := stacktextDigitsUptoRow.holds Tryd.pinned (OpenSpec.upto stacktextDigitsSpec)

/-- 'barscanlaw29.StacktextMinimal', WHERE WHAT IT READS IS OF BULK AT MOST 1048576: true; the input reads as it did. -/
def stacktextMinimalUptoRow : OpenClaim := { program := "ytgpolmomghejoaadoor", sum := "435b58a59f6ce69979da046bee167e431bbda2255821dbe64265ba41d23e4caf", func := "barscan/barscanlaw29.StacktextMinimal", spec := "stacktextMinimal", inPlace := ["internal/abi.NoEscape", "internal/bytealg.MakeNoZero"], unfollowed := true, recurses := true, named := ["internal/strconv.uint64pow10", "math/bits.deBruijn32tab", "math/bits.deBruijn64tab"], plainKeys := false, apart := false, laid := [("math/bits.deBruijn32tab", laid_math_bits_deBruijn32tab), ("math/bits.deBruijn64tab", laid_math_bits_deBruijn64tab), ("internal/strconv.uint64pow10", laid_internal_strconv_uint64pow10)], narrowed := true }
def StacktextMinimalUptoSaid : Prop := stacktextMinimalUptoRow.holds Tryd.pinned (OpenSpec.upto stacktextMinimalSpec)

/-- 'barscanlaw29.StacktextJoins', WHERE WHAT IT READS IS OF BULK AT MOST 1048576: true; the input reads as it did. -/
def stacktextJoinsUptoRow : OpenClaim := { program := "ytgpolmomghejoaadoor", sum := "435b58a59f6ce69979da046bee167e431bbda2255821dbe64265ba41d23e4caf", func := "barscan/barscanlaw29.StacktextJoins", spec := "stacktextJoins", inPlace := ["internal/abi.NoEscape", "internal/bytealg.MakeNoZero"], unfollowed := true, recurses := true, named := ["internal/strconv.uint64pow10", "math/bits.deBruijn32tab", "math/bits.deBruijn64tab"], plainKeys := false, apart := false, laid := [("math/bits.deBruijn32tab", laid_math_bits_deBruijn32tab), ("math/bits.deBruijn64tab", laid_math_bits_deBruijn64tab), ("internal/strconv.uint64pow10", laid_internal_strconv_uint64pow10)], narrowed := true }
def StacktextJoinsUptoSaid : Prop := stacktextJoinsUptoRow.holds Tryd.pinned (OpenSpec.upto stacktextJoinsSpec)

/-- 'barscanlaw29.StacktextBounds', WHERE WHAT IT READS IS OF BULK AT MOST 1048576: true; the input reads as it did. -/
def stacktextBoundsUptoRow : OpenClaim := { program := "ytgpolmomghejoaadoor", sum := "435b58a59f6ce69979da046bee167e431bbda2255821dbe64265ba41d23e4caf", func := "barscan/barscanlaw29.StacktextBounds", spec := "stacktextBounds", inPlace := ["internal/abi.NoEscape", "internal/bytealg.MakeNoZero"], unfollowed := true, recurses := true, named := ["internal/strconv.uint64pow10", "math/bits.deBruijn32tab", "math/bits.deBruijn64tab"], plainKeys := false, apart := false, laid := [("math/bits.deBruijn32tab", laid_math_bits_deBruijn32tab), ("math/bits.deBruijn64tab", laid_math_bits_deBruijn64tab), ("internal/strconv.uint64pow10", laid_internal_strconv_uint64pow10)], narrowed := true }
def StacktextBoundsUptoSaid : Prop := stacktextBoundsUptoRow.holds Tryd.pinned (OpenSpec.upto stacktextBoundsSpec)

end Rows
end Go.Proofs.YtgpolmomghejoaaDoor
