/- StacktextEncodes returns true for every input: Encode agrees with the reference. The package's variables hold what the program's text lays there. -/
import Derived.Test.YtgpolmomghejoaaDoorE32
set_option linter.unusedVariables false
set_option linter.unusedSimpArgs false
set_option linter.unusedSectionVars false
namespace Go.Proofs.YtgpolmomghejoaaDoor
open Go.Abs
namespace stacktextEncodes
open Go.ChangeShapes Go.WideShapes Go.ChangeAt Go.RowKit
theorem fnE(X:Type)(ds:List (DataW X))(h:ds.length=1):Rows.stacktextEncodesSpec.fn X ds=⟨[.lit (.bool true)],ds,[]⟩:=by
 match ds,h with
 | [d1],_=>rfl
theorem lawAll(H:Heap)(vs:List Value)(hga:Longer gaV H)(h:lu maxLen H [.sl (.int .u8)] vs):Ev cpx H.length 5 vs H (fun v _=>v=.bool true):=by
 simp only[lu]at h;obtain⟨a1,r1,rfl,h1,rfl⟩:=h;obtain⟨l1,hl1⟩:=AH h1;exact BE hl1 (first hga)
set_option maxRecDepth 100000 in
theorem lifted(os:Os)(started:os.Started)(H:Type)(enc:TypeId×Value→H) :
  ReturnsInHanded {} Tryd.checked os 5 .any (fun w args=>(Rows.stacktextEncodesSpec.pre enc Tryd.prog Tryd.f5 [] false w args∧laidMetH Tryd.prog lds w)∧sizedMet enc Tryd.prog Tryd.f5 (OpenSpec.ofChange Rows.stacktextEncodesSpec) false w args) (Rows.stacktextEncodesSpec.post enc Tryd.prog Tryd.f5 false true false false):=by
 refine returnsInHanded_of_change_and (C:=Tryd.checked) (X:=fun w _=>laidMetH Tryd.prog lds w) (fun _ _ _ hh h=>h.of_heap hh) own started (by kernel_rfl) Tryd.func5
  (ChangeSpec.witness_at (enc:=enc) (C:=Tryd.checked) (os:=os) (X:=fun w _=>laidMetH Tryd.prog lds w) false (World.laidAll Tryd.prog os lds) #[.slice none 0 0] 8 (World.laidAll_os _ _ _) (by kernel_rfl) (by kernel_rfl) (by kernel_rfl) (by kernel_rfl) (by kernel_rfl) (vj os _)) ?_
 intro W base args ds gs before hval hW _ _ hL _;exact pA (P:=Tryd.prog) (fn:=Tryd.f5) (s:=Rows.stacktextEncodesSpec) Cb (d:=8) (tys:=[.sl (.int .u8)]) (by kernel_rfl) (by kernel_rfl) (by kernel_rfl) Tryd.underlying4 laidOut (by kernel_rfl) rfl fnE (ga:=gaV) (by kernel_rfl) lawAll W (Gb hL) (known hL) base args ds gs before hval hW (fun x _=>.inl (Nat.le_refl _))
theorem over:Rows.stacktextEncodesRow.holds Tryd.pinned (OpenSpec.ofChange Rows.stacktextEncodesSpec):=
 OpenClaim.holds_of_wide 5 Tryd.f5 rfl rfl rfl rfl rfl rfl rfl ⟨rfl,rfl,rfl,rfl,rfl⟩ rfl rfl rfl rfl rfl (by kernel_rfl) Tryd.func5 (by kernel_rfl)
  (of_decide_eq_true (by kernel_rfl)) (by unfold Func.isWrapper;first|(rw[if_pos (by decide +kernel)];kernel_rfl)|(rw[if_neg (by decide +kernel)];exact⟨rfl,rfl⟩))
  (fun os started H enc _=>lifted os started H enc)
theorem proved:Rows.StacktextEncodesCardSaid:=
 Claim7.holds_tied_plain_at .later [] [.data, .data, .data] true (true, "7eedaa151f01a7fdf6b974efa2e85f0bd2a8d94a1c4e09dc5b493bb8da2169da") true
  over (fun _ h=>by cases h) (by kernel_rfl) (fun _ h=>by cases h) stacktextEncodes_row_tie rfl ⟨rfl,rfl⟩ (by kernel_rfl) rfl
  (fun f fn hf hfn=>by
   obtain rfl : f = 5 := Option.some.inj ((show Tryd.prog.funcNamed "barscan/barscanlaw29.StacktextEncodes" = some 5 by kernel_rfl).symm.trans hf) |>.symm;obtain rfl:fn=Tryd.f5:=(Option.some.inj (Tryd.func5.symm.trans hfn)).symm;exact⟨by kernel_rfl,fun j t ht=>wW (l:=Tryd.f5.params.toList) (by kernel_rfl) (by simpa using ht)⟩)
  (by kernel_rfl)
#print axioms proved
end stacktextEncodes
end Go.Proofs.YtgpolmomghejoaaDoor
