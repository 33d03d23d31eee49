/- Lemmas. -/
import Derived.Test.YtmnlgdpdgjbfgaaGreatF19
import Derived.Test.YtmnlgdpdgjbfgaaGreatF23
import Derived.Test.YtmnlgdpdgjbfgaaGreatF24
set_option linter.all false
namespace Go.Proofs.YtmnlgdpdgjbfgaaGreat
open Go.Abs Go.RS
set_option maxRecDepth 20000
theorem To(a b c d e:Int):ag [1,1,1,1,1] [.int .i64 a,.int .i64 b,.int .i64 c,.int .i64 d,.int .i64 e] [.int .i64 a,.int .i64 b,.int .i64 c,.int .i64 d,.int .i64 e]=some true:=by simp[ag,jc]
def Pp(ch sz po r b:Int)(v:Value):Prop:=((¬ ∃f,OkF ch sz po f)->v=.tuple #[cdI 0 0 0 0 0,.int .i64 1])/\((∃f,OkF ch sz po f)->¬ ng ch sz po r b->v=.tuple #[cdI 0 0 0 0 0,.int .i64 3])/\(ng ch sz po r b->v=.tuple #[cdI ch sz po r b,.int .i64 0])
section
variable {lo:Nat}{H:Heap}{ch sz po r b:Int}
namespace XTd
def xtr:=zzi @Int.cast_ofNat_Int (zzi @fv.eq_1 (zzi @fvf.eq_1 (zzi @ite_self.{1} (zzi @kf (zzi @ke (zzi @kc (zzi @cdC.eq_1 (zzi @arC.eq_1 (zzi @nI (zzi @ea (zzi @jB (zzi @kx @To))))))))))))
end XTd
open XTd
theorem Uj(hlo:lo<=H.length)(hs2:sz<=9223372036854775807):Ev cp lo 70 [fv ch sz po,.int .i64 r,.int .i64 b] H (fun v H'=>Ext H H'/\Pp ch sz po r b v):=by
 unfold fv;refine stG rfl rfl ?_;unfold Qa;simp only[kB,aD];refine aA ?_;refine aT ?_;refine aC (Gy (ch:=ch) (sz:=sz) (po:=po) hs2) ?_;rintro v H1 ⟨hx1,t1,rfl,ht1⟩;have g0:H1.get H.length=some _:=hx1.get aN;have g1:H1.get (H.length+1)=some _:=hx1.get aN;have hx1:=hx1.of_app;have hl1:=Heap.get_lt g1;cases t1 with
 | false=>
  have hno:¬ ∃f,OkF ch sz po f:=fun h=>by have:=ht1.2 h;cases this
  (try simp only[aD]);refine aP ?_ ?_<;>intro h
  case refine_2=>cases h
  clear h;refine aA ?_;refine aK ?_;exact⟨hx1.set byO,fun _=>rfl,fun h=>absurd h hno,fun h=>absurd h.1 hno⟩
 | true=>
  have hf:=ht1.1 rfl;have hsz:=wE hf;(try simp only[aD]);refine an ?_;refine aA ?_;generalize hG:H1++_=G at *;obtain⟨g2,hxG⟩:=dk hG;clear hG;have g0:=(hxG).get g0;have g1:=(hxG).get g1;have hxG:=hx1.trans hxG;have hlG:=Heap.get_lt g2;refine aT ?_;refine aC (Gh (ch:=ch) (sz:=sz) (po:=po) (r:=r) (b:=b) hs2) ?_;rintro v H2 ⟨hx2,t2,rfl,ht2⟩;have g0:=(hx2).get g0;have g1:=(hx2).get g1;have g2:=(hx2).get g2;have hx2:=hxG.trans hx2;have hl2:=Heap.get_lt g1;cases t2 with
  | false=>
   have hno:¬ ng ch sz po r b:=fun h=>by have:=ht2.2 h;cases this
   (try simp only[aD]);refine aP ?_ ?_<;>intro h
   case refine_2=>cases h
   clear h;refine aA ?_;refine aK ?_;exact⟨hx2.set byO,fun h=>absurd hf h,fun _ _=>rfl,fun h=>absurd h hno⟩
  | true=>
   have hok:ng ch sz po r b:=ht2.1 rfl;(try simp only[aD]);refine an ?_;refine aA ?_;refine aK ?_;exact⟨hx2.set byO,fun h=>absurd hf h,fun _ h=>absurd hok h,fun _=>rfl⟩
end
end Go.Proofs.YtmnlgdpdgjbfgaaGreat
