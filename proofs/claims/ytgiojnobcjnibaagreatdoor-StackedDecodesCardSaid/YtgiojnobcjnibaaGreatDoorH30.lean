/- StackedDecodes returns true for every matrix: Decode agrees with the reference. The package's variables hold what the program's text lays there. -/
import Derived.Test.YtgiojnobcjnibaaGreatDoorH29
import Derived.Test.YtgiojnobcjnibaaGreatDoorRows
import Derived.Test.YtgiojnobcjnibaaGreatDoorTie
import Derived.Test.YtgiojnobcjnibaaGreatDoorCards
import Derived.Lay
set_option linter.all false
namespace Go.Proofs.YtgiojnobcjnibaaGreatDoor
open Go.Abs
theorem own:ownKnob Tryz.prog.godebug=none:=Wf
theorem laidOut:laidOutB Tryz.prog=true:=Wf
theorem zO:Tryz.prog.globals.size=4:=Wf
def powT:XI:=[1,10,100,1000,10000,100000,1000000,10000000,100000000,1000000000,10000000000,100000000000,1000000000000,10000000000000,100000000000000,1000000000000000,10000000000000000,100000000000000000,1000000000000000000,10000000000000000000]
theorem pow_eq:powT.map (Value.int .u64)=jG:=Wf
def gaV:List<|Option XV:=[some<|powT.map<|Value.int .u64,none,none,none]
abbrev lds : List (String × DataW Unit) := [("math/bits.deBruijn32tab", Rows.laid_math_bits_deBruijn32tab), ("math/bits.deBruijn64tab", Rows.laid_math_bits_deBruijn64tab), ("internal/strconv.uint64pow10", Rows.laid_internal_strconv_uint64pow10)]
theorem VZ : Tryz.prog.globalNamed "internal/strconv.uint64pow10" = some 0 := by kernel_rfl
theorem known{W:World}(b:laidMetH Tryz.prog lds W):Fi gaV W:=by
 intro g c a
 match g,a with
 | 0,a=>
  simp[gaV]at a;subst a;refine⟨Wd,?_⟩;exact E2 (name := "internal/strconv.uint64pow10") (l := powT) (t := 310) (n := 20) (e := 247) b (by rfl) VZ Wf Wf Wf Wf Wf
 | 1,a=>simp[gaV]at a
 | 2,a=>simp[gaV]at a
 | 3,a=>simp[gaV]at a
 | g+4,a=>simp[gaV]at a
theorem TJ{W:World}(a:laidMetH Tryz.prog lds W):Tryz.prog.globals.size<=W.heap.size:=by
 have := E3 (name := "math/bits.deBruijn64tab") (g := 3) a (by rfl) (by rfl) Wf;rw[zO];omega
theorem E1(os:Os)(args:Array Value):laidMetH Tryz.prog lds ((World.laidAll Tryz.prog os lds).forCall (λ_ _=>0) ⟨#[],args,[]⟩).memory:=
 laidMetH_iff.2 ⟨laidMet_laidAll args Wf Wf,λx a=>by simp[DataW.handleName?,Rows.laid_math_bits_deBruijn32tab,Rows.laid_math_bits_deBruijn64tab,Rows.laid_internal_strconv_uint64pow10]at a⟩
theorem first{H:Heap}(h:Longer gaV H):H.get 0=some jG:=by obtain⟨r,rfl⟩:=h;rfl
theorem F9{l:List TypeId}(h:l.all (λt=>!Tryz.prog.wantsStandIn t)=true){j:Nat}{t:TypeId}(a:l[j]?=some t):Tryz.prog.wantsStandIn t=false:=by have:=List.all_eq_true.1 h t<|List.mem_of_getElem? a;simpa using this
theorem Ei{B:Nat}{H:Heap}{v:Value}(h:HasArg B H (.rcd [.int .i64,.int .i64,.sl .bool]) v):∃w u a dk,v=.agg #[.int .i64 w,.int .i64 u,a]/\SlB H a dk:=by
 simp only[HasArg,HasAll]at h;obtain⟨f,rfl,j,_,g,c,k,_,rfl,d,m,_,rfl,b,rfl⟩:=h;simp[Has]at c d;obtain⟨w,rfl,_⟩:=c;obtain⟨u,rfl,_⟩:=d;obtain⟨a,rfl,b⟩:=Ck b (by intro l e;cases e) (by intro n l e;cases e);have⟨dk,i,_⟩:=KY b;refine⟨w,u,a,dk,?_,i⟩;have:f=#[.int .i64 w,.int .i64 u,a]:=by
  apply Array.toList_inj.1;rw[g];rfl
 rw[this]
theorem Q1(a n:Nat):RunOK Tryz.prog a Tryz.prog.globals.size<|run cpL n:=sound mixed EC a n
namespace stackedDecodes
open Go.ChangeShapes Go.WideShapes Go.ChangeAt Go.RowKit
theorem fnE(X:Type)(ds:List<|DataW X)(h:ds.length=1):Rows.stackedDecodesSpec.fn X ds=⟨[.lit<|.bool true],ds,[]⟩:=by
 match ds,h with
 | [a],_=>rfl
theorem lawAll(H:Heap)(vs:XV)(a:Longer gaV H)(h:oo maxLen H [.rcd [.int .i64,.int .i64,.sl .bool]] vs):Ev cpL H.length 6 vs H λv _=>v=.bool true:=by simp only[oo]at h;obtain⟨d,e,rfl,b,rfl⟩:=h;obtain⟨w,u,f,dk,rfl,c⟩:=Ei b;exact Kx c<|first a
set_option maxRecDepth 100000 in
theorem lifted(os:Os)(a:os.Started)(H:Type)(enc:TypeId×Value->H) :
  ReturnsInHanded {} Tryz.checked os 6 .any (λw args=>(Rows.stackedDecodesSpec.pre enc Tryz.prog Tryz.f6 [] false w args/\laidMetH Tryz.prog lds w)/\sizedMet enc Tryz.prog Tryz.f6 (OpenSpec.ofChange Rows.stackedDecodesSpec) false w args)<|Rows.stackedDecodesSpec.post enc Tryz.prog Tryz.f6 false true false false:=by
 refine returnsInHanded_of_change_and (C:=Tryz.checked) (X:=λw _=>laidMetH Tryz.prog lds w) (λ_ _ _ j h=>h.of_heap j) own a Wf Tryz.func6
  (ChangeSpec.witness_at (enc:=enc) (C:=Tryz.checked) (os:=os) (X:=λw _=>laidMetH Tryz.prog lds w) false (World.laidAll Tryz.prog os lds) #[.agg #[.int .i64 0,.int .i64 0,.slice none 0 0]] 8 (World.laidAll_os _ _ _) Wf Wf Wf Wf Wf (E1 os _)) ?_
 intro W c args ds g b f i _ _ e _;exact vH (P:=Tryz.prog) (fn:=Tryz.f6) (s:=Rows.stackedDecodesSpec) Q1 (d:=8) (tys:=[.rcd [.int .i64,.int .i64,.sl .bool]]) Wf Wf Wf Tryz.underlying4 laidOut Wf rfl fnE (ga:=gaV) Wf lawAll W (TJ e) (known e) c args ds g b f i λx _=>.inl<|Nat.le_refl _
theorem over:Rows.stackedDecodesRow.holds Tryz.pinned (OpenSpec.ofChange Rows.stackedDecodesSpec):=
 OpenClaim.holds_of_wide 6 Tryz.f6 rfl rfl rfl rfl rfl rfl rfl ⟨rfl,rfl,rfl,rfl,rfl⟩ rfl rfl rfl rfl rfl Wf Tryz.func6 Wf
  (of_decide_eq_true Wf) (by unfold Func.isWrapper;first|(rw[if_pos (by decide +kernel)];kernel_rfl)|(rw[if_neg (by decide +kernel)];exact⟨rfl,rfl⟩))
  (fun os started H enc _=>lifted os started H enc)
theorem proved:Rows.StackedDecodesCardSaid:=
 Claim7.holds_tied_plain_at .later [] [.data, .data, .data] true (true, "f47a2210564e850397f9a63c0a3aa3b5ee7e06f8cf4ef7556a7c1f939625d8c7") true
  over (fun _ h=>by cases h) Wf (fun _ h=>by cases h) stackedDecodes_row_tie rfl ⟨rfl,rfl⟩ Wf rfl
  (fun f fn hf hfn=>by
   obtain rfl : f = 6 := Option.some.inj ((show Tryz.prog.funcNamed "barscan/barscanlaw30.StackedDecodes" = some 6 by kernel_rfl).symm.trans hf) |>.symm;obtain rfl:fn=Tryz.f6:=(Option.some.inj (Tryz.func6.symm.trans hfn)).symm;exact⟨Wf,fun j t ht=>F9 (l:=Tryz.f6.params.toList) Wf (by simpa using ht)⟩)
  Wf
#print axioms proved
end stackedDecodes
end Go.Proofs.YtgiojnobcjnibaaGreatDoor
