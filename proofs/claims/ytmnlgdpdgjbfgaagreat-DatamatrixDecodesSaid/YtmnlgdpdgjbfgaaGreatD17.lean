/- Lemmas. -/
import Derived.Test.YtmnlgdpdgjbfgaaGreatD16
set_option linter.all false
namespace Go.Proofs.YtmnlgdpdgjbfgaaGreat
open Go.Abs
set_option maxRecDepth 20000
section
variable {lo:Nat}{A:Heap}{sb cb bo ob cap:Nat}{v:Value}{p:List UInt8}{cs R:List Nat}
structure Nd (A H:Heap)(sb cb bo ob cap:Nat)(v:Value)(p:List UInt8)(cs R:List Nat)(a st f:Nat)(W:List Nat):Prop where
 s:SrH A sb cb v p cs
 ext:Ext A H
 out:OutH H bo cap W
 op:∃o,H.get ob=some (O5 o)
 lbo:A.length<=bo
 lob:A.length<=ob
 ne:bo≠ob
 ha:a<=p.length
 hs:st<19
 cost:W.length+cst cs a st=cap
 big:cap<=10000
 fuel:cst cs a st<f
 res:Mb p cs f a st W=R
structure NdO (A H:Heap)(sb cb bo ob cap:Nat)(v:Value)(p:List UInt8)(cs R:List Nat)(a f:Nat)(o:Opt)(W:List Nat):Prop where
 s:SrH A sb cb v p cs
 ext:Ext A H
 out:OutH H bo cap W
 op:H.get ob=some (O5 o)
 lbo:A.length<=bo
 lob:A.length<=ob
 ne:bo≠ob
 ok:o.ok p.length a
 cost:W.length+oR cs o=cap
 big:cap<=10000
 fuel:oR cs o<f+1
 ha:a+o.run<=p.length
 res:Mb p cs f o.nx o.md (W++emit p W.length a o)=R
open XMDc
theorem NdO.pos{A H:Heap}{a f:Nat}{o:Opt}{W:List Nat}(h:NdO A H sb cb bo ob cap v p cs R a f o W):cst cs o.nx o.md+1<=oR cs o:=by
 have:=h.ok.sz;have e:oR cs o=o.sz+o.run+cst cs o.nx o.md:=rfl;omega
end
section
variable {lo:Nat}{H:Heap}{v:Value}{p:List UInt8}
open XMDc
end
theorem E9{H:Heap}{v:Value}{l:List Int}{k:Nat}(h:SlI H v l)(hk:k<l.length):∃b o xs,aJ (.iAddr 1) [v,.int .i64 (k:Nat)] H=some (.pointer (some ⟨b,o,none⟩))/\H.get b=some xs/\xs[o]?=some (.int .i64 (l.getD k 0)):=by
 obtain⟨b,o,sp,cap,xs,rfl,h2,h3,h4⟩:=h.els 0 byO;refine⟨b,o+k,xs,?_,h2,h3 k hk⟩;rw[nQ byO byO];simp
def pE(l:List Int):Bool:=l.all fun x=>decide (0<=x)&&decide (x<=255)
theorem vR{l:List Int}{k:Nat}(hk:k<l.length)(h:pE (l.take k)=true):pE (l.take (k+1))=(decide (0<=l.getD k 0)&&decide (l.getD k 0<=255)):=by
 unfold pE at *;rw[List.take_succ_eq_append_getElem hk,List.all_append,h];simp[au₀,hk]
theorem C9{l:List Int}{k:Nat}(hk:k<l.length)(h:(decide (0<=l.getD k 0)&&decide (l.getD k 0<=255))=false):pE l=false:=by
 rw[Bool.eq_false_iff];intro h2;have:=List.all_eq_true.1 h2 (l.getD k 0) (by rw[au₀,bb₀ hk];exact List.getElem_mem hk);rw[this]at h;cases h
section
variable {lo:Nat}{H:Heap}{v:Value}{l:List Int}
open XMDc
end
end Go.Proofs.YtmnlgdpdgjbfgaaGreat
