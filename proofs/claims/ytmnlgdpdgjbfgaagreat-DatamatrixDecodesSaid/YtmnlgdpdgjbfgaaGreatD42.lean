/- DatamatrixDecodes returns true for every matrix: Decode agrees with the reference. No conditions. -/
import Derived.Test.YtmnlgdpdgjbfgaaGreatD41
set_option linter.all false
namespace Go.Proofs.YtmnlgdpdgjbfgaaGreat
open Go.Abs
theorem Au{B:Nat}{H:Heap}{v:Value}(h:HasArg B H (.rcd [.int .i64,.int .i64,.sl .bool]) v):∃w u vd dk,v=.agg #[.int .i64 w,.int .i64 u,vd]/\SlB H vd dk:=by
 simp only[HasArg,HasAll]at h;obtain⟨cs,rfl,a1,_,h1,ha,a2,_,rfl,hb,a3,_,rfl,hc,rfl⟩:=h;simp only[Has]at ha hb;obtain⟨w,rfl,_⟩:=ha;obtain⟨u,rfl,_⟩:=hb;obtain⟨vd,rfl,hc⟩:=zB hc (by intro l e;cases e) (by intro n l e;cases e);obtain⟨dk,h2,_⟩:=Fc hc;refine⟨w,u,vd,dk,?_,h2⟩;have:cs=#[.int .i64 w,.int .i64 u,vd]:=by
  apply Array.toList_inj.1;rw[h1];rfl
 rw[this]
namespace datamatrixDecodes
open Go.ChangeShapes Go.WideShapes Go.ChangeAt Go.RowKit
theorem fnE(X:Type)(ds:List (DataW X))(h:ds.length=1):Rows.datamatrixDecodesSpec.fn X ds=⟨[.lit (.bool true)],ds,[]⟩:=by
 match ds,h with
 | [d1],_=>rfl
theorem lawAll(H:Heap)(vs:List Value)(h:mo maxLen H [.rcd [.int .i64,.int .i64,.sl .bool]] vs):Ev cp H.length 6 vs H (fun v _=>v=.bool true):=by
 simp only[mo]at h;obtain⟨a,r,rfl,h1,rfl⟩:=h;obtain⟨w,u,vd,dk,rfl,h2⟩:=Au h1;exact GA h2
set_option maxRecDepth 100000 in
theorem lifted(os:Os)(started:os.Started)(H:Type)(enc:TypeId×Value->H) :
  ReturnsInHanded {} Tryz.checked os 6 .any (Rows.datamatrixDecodesSpec.pre6 enc Tryz.prog Tryz.f6 Rows.datamatrixDecodesRow.domain false) (Rows.datamatrixDecodesSpec.post enc Tryz.prog Tryz.f6 false true false false):=by
 refine returnsInHanded_of_change (C:=Tryz.checked) own started (by kernel_rfl) Tryz.func6
  (ChangeSpec.witness6 (enc:=enc) (C:=Tryz.checked) false ⟨#[],#[.agg #[.int .i64 0,.int .i64 0,.slice none 0 0]],[]⟩ 8 (by kernel_rfl) (by kernel_rfl) (by kernel_rfl) (by kernel_rfl)) ?_
 intro W base args ds gs before c9 hW _ _;exact uE (P:=Tryz.prog) (fn:=Tryz.f6) (s:=Rows.datamatrixDecodesSpec) O2 (d:=8) (tys:=[.rcd [.int .i64,.int .i64,.sl .bool]]) (by kernel_rfl) (by kernel_rfl) (by kernel_rfl) Tryz.underlying4 laidOut (by kernel_rfl) rfl fnE lawAll W (by rw[BA];omega) base args ds gs before c9 hW (fun x _=>.inl (Nat.le_refl _))
theorem over:Rows.datamatrixDecodesRow.holds Tryz.pinned (OpenSpec.ofChange Rows.datamatrixDecodesSpec):=
 OpenClaim.holds_of_wide 6 Tryz.f6 rfl rfl rfl rfl rfl rfl rfl ⟨rfl,rfl,rfl,rfl,rfl⟩ rfl rfl rfl rfl rfl (by kernel_rfl) Tryz.func6 (by kernel_rfl)
  (of_decide_eq_true (by kernel_rfl)) (by unfold Func.isWrapper;first|(rw[if_pos (by decide +kernel)];kernel_rfl)|(rw[if_neg (by decide +kernel)];exact⟨rfl,rfl⟩))
  (fun os started H enc _=>lifted os started H enc)
theorem proved:Rows.DatamatrixDecodesSaid:=over
#print axioms proved
end datamatrixDecodes
end Go.Proofs.YtmnlgdpdgjbfgaaGreat
