/- Lemmas. -/
import Derived.Test.YtgiojnobcjnibaaGreatDoorI9
import Derived.Test.YtgiojnobcjnibaaGreatDoorI13
import Derived.Test.YtgiojnobcjnibaaGreatDoorI17
import Derived.Test.YtgiojnobcjnibaaGreatDoorRows
import Derived.Test.YtgiojnobcjnibaaGreatDoorTie
import Derived.Test.YtgiojnobcjnibaaGreatDoorCards
import Derived.Lay
set_option linter.unusedVariables false
set_option linter.unusedSimpArgs false
set_option linter.unusedSectionVars false
namespace Go.Proofs.YtgiojnobcjnibaaGreatDoor
open Go.Abs
theorem own:ownKnob Tryz.prog.godebug=none:=by kernel_rfl
theorem laidOut:laidOutB Tryz.prog=true:=by kernel_rfl
theorem fourGlobals:Tryz.prog.globals.size=4:=by kernel_rfl
def gaV:List (Option (List Value)):=[none,none,none,none]
abbrev lds : List (String × DataW Unit) := [("math/bits.deBruijn32tab", Rows.laid_math_bits_deBruijn32tab), ("math/bits.deBruijn64tab", Rows.laid_math_bits_deBruijn64tab), ("internal/strconv.uint64pow10", Rows.laid_internal_strconv_uint64pow10)]
theorem known{W:World}(hL:laidMetH Tryz.prog lds W):Known gaV W:=by
 intro g c hg
 match g,hg with
 | 0,hg=>simp[gaV]at hg
 | 1,hg=>simp[gaV]at hg
 | 2,hg=>simp[gaV]at hg
 | 3,hg=>simp[gaV]at hg
 | g+4,hg=>simp[gaV]at hg
theorem sizeG{W:World}(hL:laidMetH Tryz.prog lds W):Tryz.prog.globals.size≤W.heap.size:=by
 have := laid_size (name := "math/bits.deBruijn64tab") (g := 3) hL (by rfl) (by rfl) (by kernel_rfl)
 rw[fourGlobals];omega
theorem laidWorld(os:Os)(args:Array Value):laidMetH Tryz.prog lds ((World.laidAll Tryz.prog os lds).forCall (fun _ _=>0) ⟨#[],args,[]⟩).memory:=
 laidMetH_iff.2 ⟨laidMet_laidAll args (by kernel_rfl) (by kernel_rfl),fun x hx=>by simp[DataW.handleName?,Rows.laid_math_bits_deBruijn32tab,Rows.laid_math_bits_deBruijn64tab,Rows.laid_internal_strconv_uint64pow10]at hx⟩
theorem int_arg{B:Nat}{H:Heap}{v:Value}(h:HasArg B H (.int .i64) v):∃n:Int,v=.int .i64 n∧-9223372036854775808≤n∧n≤9223372036854775807:=by
 simp only[HasArg,Has]at h
 obtain⟨n,e,hn⟩:=h
 cases e
 exact⟨n,rfl,hn⟩
theorem two_arg{B:Nat}{H:Heap}{v:Value}(h:HasArg B H (.arr 2 (.int .i64)) v):∃a b:Int,v=.agg #[.int .i64 a,.int .i64 b]:=by
 simp only[HasArg]at h
 obtain⟨⟨cs⟩,rfl,h⟩:=h
 simp only[HasN,Has]at h
 obtain⟨_,_,rfl,⟨a,rfl,-⟩,_,_,rfl,⟨b,rfl,-⟩,rfl⟩:=h
 exact⟨a,b,rfl⟩
theorem wantsNone{l:List TypeId}(h:l.all (fun t=>!Tryz.prog.wantsStandIn t)=true){j:Nat}{t:TypeId}(ht:l[j]?=some t):Tryz.prog.wantsStandIn t=false:=by
 have:=List.all_eq_true.1 h t (List.mem_of_getElem? ht)
 simpa using this
set_option maxRecDepth 20000
theorem xt4{lo:Nat}{H:Heap}{R:Value→Heap→Prop}{a0 a1 a2:Value}(h:wpS cpS lo bd4 (bodyQ cf4 R) [a0,a1,a2,undef,undef,undef,undef,undef,undef,undef,undef,undef,undef,undef,undef] H):Ev cpS lo 4 [a0,a1,a2] H R:=ev_of_wp (cf:=cf4) rfl rfl rfl h
theorem indV_tup(r n c l:Int):∃a b e:Nat,indV r n c l=tup3 a b e:=by
 unfold indV
 split
 ·exact⟨_,_,_,rfl⟩
 split
 ·exact⟨_,_,_,rfl⟩
 ·exact⟨_,_,_,rfl⟩
theorem xTLb{cp:FuncId→Option CF}{lo:Nat}{l:List (Nat×E)}{chk:List E}{Q:Post}{S:List Value}{H:Heap}{vs:List (Nat×Value)}{dst:Option Nat}{o:HOp}{a:E}{xs:List Value}{pc:PC}(k:wpH cp lo o xs H fun v H'=>Q .normal (setD (setAll S vs) dst v) H')(h:evSets S H l=some vs:=by exact xETd)(hc:evChk S H chk=true:=by simp(disch:=first|omega|(simp only[lenB];omega))only[evB,xBTd,Nat.reduceAdd,Nat.reduceMul,Nat.reduceBEq,Int.reduceToNat,Int.reduceEq,Int.reduceNe, *])(hp:holds S H pc=some true:=by simp(disch:=first|omega|(simp only[lenB];omega))only[evB,xBTd,Nat.reduceAdd,Nat.reduceMul,Nat.reduceBEq,Int.reduceToNat,Int.reduceEq,Int.reduceNe, *];try rfl)(ha:ev S H a=some xs:=by exact xETd):wpS cp lo (.hv l chk pc dst o a) Q S H:=aw_hvT h hc hp ha k
theorem lawIndP{H:Heap}{r n c l:Int}:Ev cpS H.length 4 [.int .i64 r,.int .i64 n,.agg #[.int .i64 c,.int .i64 l]] H (fun v _=>v=.bool true):=by
 refine xt4 ?_;unfold bd4 cf4;simp only[kB,ctlB]
 have g0:Heap.get (H++[some [.int .i64 c,.int .i64 l]]) H.length=some [.int .i64 c,.int .i64 l]:=get_push_self _ _
 have hx0:=Ext.push H (some [.int .i64 c,.int .i64 l])
 repeat' ((first|refine xSTd ?_|refine xOTd rfl ?_);(try simp only[ctlB]))
 refine xHTd ?_
 refine wpH_call0 ((indP (r:=r) (n:=n) (c:=c) (l:=l)).sub subS) ?_
 rintro v1 H1 ⟨rfl,rfl⟩
 obtain⟨a,b,e,he⟩:=indV_tup r n c l
 rw[he]
 unfold tup3
 (try simp only[ctlB])
 repeat' ((first|refine xSTd ?_|refine xOTd rfl ?_);(try simp only[ctlB]))
 refine xHTd ?_
 refine wpH_call0 ((rindP (r:=r) (n:=n) (c:=c) (l:=l) (by simp)).sub subS) ?_
 rintro v1 H1 ⟨hx1,rfl⟩
 rw[he]
 unfold tup3
 (try simp only[ctlB])
 repeat' ((first|refine xSTd ?_|refine xOTd rfl ?_);(try simp only[ctlB]))
 refine xTLb ?_
 refine wpH_call0 (aliveP (by have:=hx1.1;simp at this;omega)) ?_
 rintro v2 H2 ⟨hx2,rfl⟩
 (try simp only[ctlB])
 repeat' ((first|refine xSTd ?_|refine xOTd rfl ?_);(try simp only[ctlB]))
 refine xRTd ?_
 rfl
end Go.Proofs.YtgiojnobcjnibaaGreatDoor
