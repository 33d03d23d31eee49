/- Lemmas. -/
import Derived.Test.YtgiojnobcjnibaaGreatDoorP9
import Derived.Test.YtgiojnobcjnibaaGreatDoorP19
import Derived.Test.YtgiojnobcjnibaaGreatDoorRows
import Derived.Test.YtgiojnobcjnibaaGreatDoorTie
import Derived.Test.YtgiojnobcjnibaaGreatDoorCards
import Derived.Lay
set_option linter.unusedVariables false
set_option linter.unusedSimpArgs false
set_option linter.unusedSectionVars false
namespace Go.Proofs.YtgiojnobcjnibaaGreatDoor
open Go.Abs
theorem own:ownKnob Tryz.prog.godebug=none:=by kernel_rfl
theorem laidOut:laidOutB Tryz.prog=true:=by kernel_rfl
theorem fourGlobals:Tryz.prog.globals.size=4:=by kernel_rfl
def gaV:List (Option (List Value)):=[none,none,none,none]
abbrev lds : List (String × DataW Unit) := [("math/bits.deBruijn32tab", Rows.laid_math_bits_deBruijn32tab), ("math/bits.deBruijn64tab", Rows.laid_math_bits_deBruijn64tab), ("internal/strconv.uint64pow10", Rows.laid_internal_strconv_uint64pow10)]
theorem known{W:World}(hL:laidMetH Tryz.prog lds W):Known gaV W:=by
 intro g c hg
 match g,hg with
 | 0,hg=>simp[gaV]at hg
 | 1,hg=>simp[gaV]at hg
 | 2,hg=>simp[gaV]at hg
 | 3,hg=>simp[gaV]at hg
 | g+4,hg=>simp[gaV]at hg
theorem sizeG{W:World}(hL:laidMetH Tryz.prog lds W):Tryz.prog.globals.size≤W.heap.size:=by
 have := laid_size (name := "math/bits.deBruijn64tab") (g := 3) hL (by rfl) (by rfl) (by kernel_rfl)
 rw[fourGlobals];omega
theorem laidWorld(os:Os)(args:Array Value):laidMetH Tryz.prog lds ((World.laidAll Tryz.prog os lds).forCall (fun _ _=>0) ⟨#[],args,[]⟩).memory:=
 laidMetH_iff.2 ⟨laidMet_laidAll args (by kernel_rfl) (by kernel_rfl),fun x hx=>by simp[DataW.handleName?,Rows.laid_math_bits_deBruijn32tab,Rows.laid_math_bits_deBruijn64tab,Rows.laid_internal_strconv_uint64pow10]at hx⟩
theorem int_arg{B:Nat}{H:Heap}{v:Value}(h:HasArg B H (.int .i64) v):∃n:Int,v=.int .i64 n∧-9223372036854775808≤n∧n≤9223372036854775807:=by
 simp only[HasArg,Has]at h
 obtain⟨n,e,hn⟩:=h
 cases e
 exact⟨n,rfl,hn⟩
theorem ints_arg{B:Nat}{H:Heap}{v:Value}(h:HasArg B H (.sl (.int .i64)) v):∃l:List Int,SlI H v l:=by
 simp only[HasArg]at h
 obtain⟨l,h1,_⟩:=has_slI h
 exact⟨l,h1⟩
theorem wantsNone{l:List TypeId}(h:l.all (fun t=>!Tryz.prog.wantsStandIn t)=true){j:Nat}{t:TypeId}(ht:l[j]?=some t):Tryz.prog.wantsStandIn t=false:=by
 have:=List.all_eq_true.1 h t (List.mem_of_getElem? ht)
 simpa using this
end Go.Proofs.YtgiojnobcjnibaaGreatDoor
