/- Strings and bytes in the abstract machine. What every law of this seat needs of the program: its variables, and the arguments of the laws. Netpbm: decimal digits, as strconv has them for small numbers, and as the reference has them. Netpbm: the digits of small numbers as strconv writes them. Netpbm: strconv.AppendInt for numbers up to 4096. -/
import Derived.Test.YtpbiaeiebhgmgaaDoorQ11
import Derived.Test.YtpbiaeiebhgmgaaDoorRows
import Derived.Test.YtpbiaeiebhgmgaaDoorTie
import Derived.Test.YtpbiaeiebhgmgaaDoorCards
import Derived.Lay
set_option linter.unusedVariables false
set_option linter.unusedSimpArgs false
set_option linter.unusedSectionVars false
namespace Go.Proofs.YtpbiaeiebhgmgaaDoor
open Go.Abs
set_option linter.unusedSimpArgs false
set_option linter.unusedVariables false
section
variable {lo:Nat}{H:Heap}
def OwnL(lo:Nat)(H:Heap)(v:Value)(b:Nat)(X:List Value):Prop:=Own lo 1 H v b X∨(lo≤b∧v=.slice (some ⟨b,0,none⟩) X.length X.length∧0<X.length∧H.get b=some X)
theorem OwnL.mono{lo b:Nat}{H H':Heap}{v:Value}{X:List Value}(h:OwnL lo H v b X)(e:Ext H H'):OwnL lo H' v b X:=by
 rcases h with h|⟨h1,h2,h3,h4⟩
 ·exact .inl (h.mono e)
 ·exact .inr ⟨h1,h2,h3,e.get h4⟩
end
end Go.Proofs.YtpbiaeiebhgmgaaDoor
namespace Go.Proofs.YtpbiaeiebhgmgaaDoor
open Go.Abs
theorem own:ownKnob Tryd.prog.godebug=none:=by kernel_rfl
theorem laidOut:laidOutB Tryd.prog=true:=by kernel_rfl
theorem threeGlobals:Tryd.prog.globals.size=3:=by kernel_rfl
def powT:List Int:=[1,10,100,1000,10000,100000,1000000,10000000,100000000,1000000000,10000000000,100000000000,1000000000000,10000000000000,100000000000000,1000000000000000,10000000000000000,100000000000000000,1000000000000000000,10000000000000000000]
def gaV:List (Option (List Value)):=[some (powT.map (Value.int .u64)),none,none]
abbrev lds : List (String × DataW Unit) := [("math/bits.deBruijn32tab", Rows.laid_math_bits_deBruijn32tab), ("math/bits.deBruijn64tab", Rows.laid_math_bits_deBruijn64tab), ("internal/strconv.uint64pow10", Rows.laid_internal_strconv_uint64pow10)]
theorem powG : Tryd.prog.globalNamed "internal/strconv.uint64pow10" = some 0 := by kernel_rfl
theorem known{W:World}(hL:laidMetH Tryd.prog lds W):Known gaV W:=by
 intro g c hg
 match g,hg with
 | 0,hg=>
  simp[gaV]at hg;subst hg
  refine⟨by decide,?_⟩
  exact laid_ints (name := "internal/strconv.uint64pow10") (l := powT) (t := 93) (n := 20) (e := 78) hL (by rfl) powG (by kernel_rfl) (by kernel_rfl) (by kernel_rfl) (by kernel_rfl) (by kernel_rfl)
 | 1,hg=>simp[gaV]at hg
 | 2,hg=>simp[gaV]at hg
 | g+3,hg=>simp[gaV]at hg
theorem sizeG{W:World}(hL:laidMetH Tryd.prog lds W):Tryd.prog.globals.size≤W.heap.size:=by
 have := laid_size (name := "math/bits.deBruijn64tab") (g := 2) hL (by rfl) (by rfl) (by kernel_rfl)
 rw[threeGlobals];omega
theorem laidWorld(os:Os)(args:Array Value):laidMetH Tryd.prog lds ((World.laidAll Tryd.prog os lds).forCall (fun _ _=>0) ⟨#[],args,[]⟩).memory:=
 laidMetH_iff.2 ⟨laidMet_laidAll args (by kernel_rfl) (by kernel_rfl),fun x hx=>by simp[DataW.handleName?,Rows.laid_math_bits_deBruijn32tab,Rows.laid_math_bits_deBruijn64tab,Rows.laid_internal_strconv_uint64pow10]at hx⟩
theorem wantsNone{l:List TypeId}(h:l.all (fun t=>!Tryd.prog.wantsStandIn t)=true){j:Nat}{t:TypeId}(ht:l[j]?=some t):Tryd.prog.wantsStandIn t=false:=by
 have:=List.all_eq_true.1 h t (List.mem_of_getElem? ht)
 simpa using this
end Go.Proofs.YtpbiaeiebhgmgaaDoor
namespace Go.Proofs.YtpbiaeiebhgmgaaDoor
open Go.Abs
set_option linter.unusedSimpArgs false
set_option linter.unusedVariables false
set_option maxRecDepth 20000
def dig(n:Nat):UInt8:=UInt8.ofNat (48+n)
section
variable {lo:Nat}{H:Heap}
end
end Go.Proofs.YtpbiaeiebhgmgaaDoor
namespace Go.Proofs.YtpbiaeiebhgmgaaDoor
open Go.Abs
set_option linter.unusedSimpArgs false
set_option linter.unusedVariables false
set_option maxRecDepth 20000
section
variable {lo:Nat}{H:Heap}
def len8(n:Nat):Nat:=if n=0 then 0 else n.log2+1
def bl(n:Nat):Nat:=if n<256 then len8 n else 8+len8 (n/256)
end
end Go.Proofs.YtpbiaeiebhgmgaaDoor
namespace Go.Proofs.YtpbiaeiebhgmgaaDoor
open Go.Abs
set_option linter.unusedSimpArgs false
set_option linter.unusedVariables false
set_option maxRecDepth 20000
section
variable {lo:Nat}{H:Heap}
theorem keepTrans{b b':Nat}{H H1 H2:Heap}(h:Keep b H H1)(hb:b'=b∨H.length≤b')(h2:Keep b' H1 H2):Keep b H H2:=
 ⟨Nat.le_trans h.len h2.len,fun i hi hne=>by rw[h2.eq i (Nat.lt_of_lt_of_le hi h.len) (by omega),h.eq i hi hne]⟩
theorem Ext.keep{b:Nat}{H H1:Heap}(h:Ext H H1):Keep b H H1:=⟨h.1,fun i hi _=>h.2 i hi⟩
end
end Go.Proofs.YtpbiaeiebhgmgaaDoor
