/- Lemmas. -/
import Derived.Test.YtmnlgdpdgjbfgaaGreatL10
import Derived.Test.YtmnlgdpdgjbfgaaGreatL19
set_option linter.all false
namespace Go.Proofs.YtmnlgdpdgjbfgaaGreat
open Go.Abs Go.RS
set_option maxRecDepth 20000
section
variable {f:FD}[OkC f]{lo:Nat}{H:Heap}{g:El f}{d be bl r b bw bE s:Nat}{w:List (El f)}{er:Nat->Bool}{vv vs vl vp:Value}
open XSa
end
section
variable {f:FD}[OkC f]{lo:Nat}{H:Heap}{g:El f}{d be bl r b bw bE s:Nat}{w:List (El f)}{er:Nat->Bool}{vv vs vl vp:Value}
def Low(m:Nat)(H H':Heap):Prop:=H.length<=H'.length/\∀i,i<m->i<H.length->H'.get i=H.get i
theorem Low.trans{m:Nat}{A B C:Heap}(h:Low m A B)(k:Low m B C):Low m A C:=⟨Nat.le_trans h.1 k.1,fun i hi hl=>(k.2 i hi (bc₀ hl h.1)).trans (h.2 i hi hl)⟩
theorem Low.keep{m b:Nat}{A B:Heap}(h:Keep b A B)(hb:m<=b):Low m A B:=⟨h.len,fun i hi hl=>h.eq i hl byO⟩
theorem Low.ext{m:Nat}{A B:Heap}(h:Ext A B):Low m A B:=⟨h.1,fun i _ hl=>h.2 i hl⟩
open XSa
end
section
variable {lo:Nat}{H:Heap}{ch sz po r b:Int}{v ve:Value}{l e:List Int}
open XSa
end
open XSa
section
variable {f:FD}[OkC f]
end
section
variable {lo:Nat}{H:Heap}{ch sz po r b:Int}
theorem Rv(hlo:lo<=H.length)(hb:po<=9223372036854775807):Ev cp lo 57 [fv ch sz po,.int .i64 r,.int .i64 b] H (fun v H'=>Ext H H'/\((¬ ∃f,OkF ch sz po f)->v=.tuple #[cdI 0 0 0 0 0,.int .i64 1])/\((∃f,OkF ch sz po f)->¬ xe ch sz po r b->v=.tuple #[cdI 0 0 0 0 0,.int .i64 3])/\(xe ch sz po r b->v=.tuple #[cdI ch sz po r b,.int .i64 0])):=by
 unfold fv;refine stG rfl rfl ?_;unfold Nz;simp only[kB,aC];refine aL ?_;refine bY ?_;refine aB (valid (ch:=ch) (sz:=sz) (po:=po) hb) ?_;rintro v H1 ⟨hx1,t1,rfl,ht1⟩;have g0:H1.get H.length=some _:=hx1.get bJ;have g1:H1.get (H.length+1)=some _:=hx1.get bJ;have hx1:=hx1.of_app;have hl1:=Heap.get_lt g1;cases t1 with
 | false=>
  have hno:¬ ∃f,OkF ch sz po f:=fun h=>by have:=ht1.2 h;cases this
  (try simp only[aC]);refine bQ ?_ ?_<;>intro h
  case refine_2=>cases h
  clear h;refine aL ?_;refine bU ?_;exact⟨hx1.set byO,fun _=>rfl,fun h=>absurd h hno,fun h=>absurd h.1 hno⟩
 | true=>
  have hf:=ht1.1 rfl;have hsz:=E7 hf;(try simp only[aC]);refine bQ ?_ ?_<;>intro h
  ·cases h
  clear h;(try simp only[aC]);refine bY ?_;refine aB (fits (ch:=ch) (sz:=sz) (po:=po) (r:=r) (b:=b) byO byO) ?_;rintro v H2 ⟨hx2,rfl⟩;have g0:=(hx2).get g0;have g1:=(hx2).get g1;have hx2:=hx1.trans hx2;have hl2:=Heap.get_lt g1;generalize ht2:(((decide (1<=r)&&decide (r<=sz-2))&&decide (0<=b))&&decide (b<=sz-2))=t2;have ht2':t2=true↔1<=r/\r<=sz-2/\0<=b/\b<=sz-2:=by
   rw[<-ht2];simp only[ac₀,af₀];omega
  clear ht2;cases t2 with
  | false=>
   have hno:¬ xe ch sz po r b:=fun h=>by have:=ht2'.2 h.2;cases this
   (try simp only[aC]);refine bQ ?_ ?_<;>intro h
   case refine_2=>cases h
   clear h;refine aL ?_;refine bU ?_;exact⟨hx2.set byO,fun h=>absurd hf h,fun _ _=>rfl,fun h=>absurd h hno⟩
  | true=>
   have hok:xe ch sz po r b:=⟨hf,ht2'.1 rfl⟩;(try simp only[aC]);refine bQ ?_ ?_<;>intro h
   ·cases h
   clear h;refine aL ?_;refine bU ?_;exact⟨hx2.set byO,fun h=>absurd hf h,fun _ h=>absurd hok h,fun _=>rfl⟩
end
end Go.Proofs.YtmnlgdpdgjbfgaaGreat
