/- DatamatrixCorrects returns true for every size, data and damage: what is within the capacity of each block is corrected. No conditions. -/
import Derived.Test.YtmnlgdpdgjbfgaaGreatC24
set_option linter.unusedVariables false
set_option linter.unusedSimpArgs false
set_option linter.unusedSectionVars false
namespace Go.Proofs.YtmnlgdpdgjbfgaaGreat
open Go.Abs
namespace datamatrixCorrects
open Go.ChangeShapes Go.WideShapes Go.ChangeAt Go.RowKit
theorem fnE(X:Type)(ds:List (DataW X))(h:ds.length=4):Rows.datamatrixCorrectsSpec.fn X ds=⟨[.lit (.bool true)],ds,[]⟩:=by
 match ds,h with
 | [d1,d2,d3,d4],_=>rfl
theorem lawAll(H:Heap)(vs:List Value)(h:HasArgs maxLen H [.int .u8,.sl (.int .u8),.sl (.int .u16),.sl (.int .u8)] vs):Ev cp H.length 8 vs H (fun v _=>v=.bool true):=by
 simp only[HasArgs]at h
 obtain⟨a1,r1,rfl,h1,a2,r2,rfl,h2,a3,r3,rfl,h3,a4,r4,rfl,h4,rfl⟩:=h
 simp only[HasArg]at h1 h2 h3 h4
 obtain⟨k0,e1,hk0⟩:=has_k h1
 cases e1
 obtain⟨k,rfl,hk⟩:=nat8 hk0
 obtain⟨aP,p,cP,e2,p1,p2,p3⟩:=sl_k h2
 cases e2
 obtain⟨aA,la,cA,e3,q1,q2,q3⟩:=sl_k h3
 cases e3
 obtain⟨aY,lb,cY,e4,y1,y2,y3⟩:=sl_k h4
 cases e4
 exact lawCor hk p1 (u8_rg p3) (ml p2) q1 (u16_rg q3) (ml q2) y1 (u8_rg y3) (ml y2)
set_option maxRecDepth 100000 in
theorem lifted(os:Os)(started:os.Started)(H:Type)(enc:TypeId×Value→H) :
  ReturnsInHanded {} Tryz.checked os 8 .any (Rows.datamatrixCorrectsSpec.pre6 enc Tryz.prog Tryz.f8 Rows.datamatrixCorrectsRow.domain false) (Rows.datamatrixCorrectsSpec.post enc Tryz.prog Tryz.f8 false true false false):=by
 refine returnsInHanded_of_change (C:=Tryz.checked) own started (by kernel_rfl) Tryz.func8
  (ChangeSpec.witness6 (enc:=enc) (C:=Tryz.checked) false ⟨#[],#[.int .u8 0,.slice none 0 0,.slice none 0 0,.slice none 0 0],[]⟩ 8 (by kernel_rfl) (by kernel_rfl) (by kernel_rfl) (by kernel_rfl)) ?_
 intro W base args ds gs before hval hW _ _
 exact law_contract (P:=Tryz.prog) (fn:=Tryz.f8) (s:=Rows.datamatrixCorrectsSpec) okAll (d:=8) (tys:=[.int .u8,.sl (.int .u8),.sl (.int .u16),.sl (.int .u8)]) (by kernel_rfl) (by kernel_rfl) (by kernel_rfl) Tryz.underlying4 laidOut (by kernel_rfl) rfl fnE lawAll W (by rw[noGlobals];omega) base args ds gs before hval hW (fun x _=>.inl (Nat.le_refl _))
theorem over:Rows.datamatrixCorrectsRow.holds Tryz.pinned (OpenSpec.ofChange Rows.datamatrixCorrectsSpec):=
 OpenClaim.holds_of_wide 8 Tryz.f8 rfl rfl rfl rfl rfl rfl rfl ⟨rfl,rfl,rfl,rfl,rfl⟩ rfl rfl rfl rfl rfl (by kernel_rfl) Tryz.func8 (by kernel_rfl)
  (of_decide_eq_true (by kernel_rfl)) (by unfold Func.isWrapper;first|(rw[if_pos (by decide +kernel)];kernel_rfl)|(rw[if_neg (by decide +kernel)];exact⟨rfl,rfl⟩))
  (fun os started H enc _=>lifted os started H enc)
theorem proved:Rows.DatamatrixCorrectsSaid:=over
#print axioms proved
end datamatrixCorrects
end Go.Proofs.YtmnlgdpdgjbfgaaGreat
