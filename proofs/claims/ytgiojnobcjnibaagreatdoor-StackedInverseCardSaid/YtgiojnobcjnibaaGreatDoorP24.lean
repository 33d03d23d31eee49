/- StackedInverse returns true for every input: Value inverts Pattern, and the patterns are in order. The package's variables hold what the program's text lays there. -/
import Derived.Test.YtgiojnobcjnibaaGreatDoorP20
import Derived.Test.YtgiojnobcjnibaaGreatDoorP23
set_option linter.unusedVariables false
set_option linter.unusedSimpArgs false
set_option linter.unusedSectionVars false
namespace Go.Proofs.YtgiojnobcjnibaaGreatDoor
open Go.Abs
namespace stackedInverse
open Go.ChangeShapes Go.WideShapes Go.ChangeAt Go.RowKit
theorem fnE(X:Type)(ds:List (DataW X))(h:ds.length=2):Rows.stackedInverseSpec.fn X ds=⟨[.lit (.bool true)],ds,[]⟩:=by
 match ds,h with
 | [d1,d2],_=>rfl
theorem lawAll(H:Heap)(vs:List Value)(hga:Longer gaV H)(h:HasArgs maxLen H [.int .i64,.int .i64] vs):Ev cpS H.length 7 vs H (fun v _=>v=.bool true):=by
 simp only[HasArgs]at h
 obtain⟨a1,r1,rfl,h1,a2,r2,rfl,h2,rfl⟩:=h
 obtain⟨n1,rfl,hl1,hm1⟩:=int_arg h1
 obtain⟨n2,rfl,hl2,hm2⟩:=int_arg h2
 exact lawInvP hm2
set_option maxRecDepth 100000 in
theorem lifted(os:Os)(started:os.Started)(H:Type)(enc:TypeId×Value→H) :
  ReturnsInHanded {} Tryz.checked os 7 .any (fun w args=>(Rows.stackedInverseSpec.pre enc Tryz.prog Tryz.f7 [] false w args∧laidMetH Tryz.prog lds w)∧sizedMet enc Tryz.prog Tryz.f7 (OpenSpec.ofChange Rows.stackedInverseSpec) false w args) (Rows.stackedInverseSpec.post enc Tryz.prog Tryz.f7 false true false false):=by
 refine returnsInHanded_of_change_and (C:=Tryz.checked) (X:=fun w _=>laidMetH Tryz.prog lds w) (fun _ _ _ hh h=>h.of_heap hh) own started (by kernel_rfl) Tryz.func7
  (ChangeSpec.witness_at (enc:=enc) (C:=Tryz.checked) (os:=os) (X:=fun w _=>laidMetH Tryz.prog lds w) false (World.laidAll Tryz.prog os lds) #[.int .i64 0,.int .i64 0] 8 (World.laidAll_os _ _ _) (by kernel_rfl) (by kernel_rfl) (by kernel_rfl) (by kernel_rfl) (by kernel_rfl) (laidWorld os _)) ?_
 intro W base args ds gs before hval hW _ _ hL _
 exact law_contractG (P:=Tryz.prog) (fn:=Tryz.f7) (s:=Rows.stackedInverseSpec) okAllS (d:=8) (tys:=[.int .i64,.int .i64]) (by kernel_rfl) (by kernel_rfl) (by kernel_rfl) Tryz.underlying4 laidOut (by kernel_rfl) rfl fnE (ga:=gaV) (by kernel_rfl) lawAll W (sizeG hL) (known hL) base args ds gs before hval hW (fun x _=>.inl (Nat.le_refl _))
theorem over:Rows.stackedInverseRow.holds Tryz.pinned (OpenSpec.ofChange Rows.stackedInverseSpec):=
 OpenClaim.holds_of_wide 7 Tryz.f7 rfl rfl rfl rfl rfl rfl rfl ⟨rfl,rfl,rfl,rfl,rfl⟩ rfl rfl rfl rfl rfl (by kernel_rfl) Tryz.func7 (by kernel_rfl)
  (of_decide_eq_true (by kernel_rfl)) (by unfold Func.isWrapper;first|(rw[if_pos (by decide +kernel)];kernel_rfl)|(rw[if_neg (by decide +kernel)];exact⟨rfl,rfl⟩))
  (fun os started H enc _=>lifted os started H enc)
theorem proved:Rows.StackedInverseCardSaid:=
 Claim7.holds_tied_plain_at .later [] [.data, .data, .data] true (true, "f47a2210564e850397f9a63c0a3aa3b5ee7e06f8cf4ef7556a7c1f939625d8c7") true
  over (fun _ h=>by cases h) (by kernel_rfl) (fun _ h=>by cases h) stackedInverse_row_tie rfl ⟨rfl,rfl⟩ (by kernel_rfl) rfl
  (fun f fn hf hfn=>by
   obtain rfl : f = 7 := Option.some.inj ((show Tryz.prog.funcNamed "barscan/barscanlaw30.StackedInverse" = some 7 by kernel_rfl).symm.trans hf) |>.symm
   obtain rfl:fn=Tryz.f7:=(Option.some.inj (Tryz.func7.symm.trans hfn)).symm
   exact⟨by kernel_rfl,fun j t ht=>wantsNone (l:=Tryz.f7.params.toList) (by kernel_rfl) (by simpa using ht)⟩)
  (by kernel_rfl)
#print axioms proved
end stackedInverse
end Go.Proofs.YtgiojnobcjnibaaGreatDoor
