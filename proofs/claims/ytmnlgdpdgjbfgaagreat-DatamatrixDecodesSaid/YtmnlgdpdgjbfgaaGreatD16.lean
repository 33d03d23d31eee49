/- Lemmas. -/
import Derived.Test.YtmnlgdpdgjbfgaaGreatD15
set_option linter.all false
namespace Go.Proofs.YtmnlgdpdgjbfgaaGreat
open Go.Abs
set_option maxRecDepth 20000
structure SrW (A H:Heap)(sb cb:Nat)(v:Value)(p:List UInt8)(cs:List Nat):Prop where
 s:SrH H sb cb v p cs
 pl:SlU A v p
 ext:Ext A H
 cbA:A.length<=cb
 ne:sb≠cb
theorem SrW.mono{A H H':Heap}{sb cb:Nat}{v:Value}{p:List UInt8}{cs:List Nat}(h:SrW A H sb cb v p cs)(e:Ext H H'):SrW A H' sb cb v p cs:=
 ⟨h.s.ext e,h.pl,h.ext.trans e,h.cbA,h.ne⟩
theorem SrW.set{A H H':Heap}{sb cb i x:Nat}{v:Value}{p:List UInt8}{cs:List Nat}(h:SrW A H sb cb v p cs)(hk:Keep cb H H')(hg:H'.get cb=some (uN (cs.set i x)))(hx:x<=1073741824):SrW A H' sb cb v p (cs.set i x):=by
 have hA:=hk.ext h.ext h.cbA;refine⟨⟨hk.get h.s.g h.ne,hg,h.pl.mono hA,by simpa using h.s.len,h.s.hi,fun j=>?_⟩,h.pl,hA,h.cbA,h.ne⟩;by_cases hi:i<cs.length
 ·rw[Ac hi];split
  ·exact hx
  ·exact h.s.le j
 ·rw[List.set_eq_of_length_le byO];exact h.s.le j
section
variable {lo:Nat}{A H:Heap}{sb cb:Nat}{v:Value}{p:List UInt8}{cs:List Nat}
open XMDc
end
section
variable {lo:Nat}{H:Heap}{v:Value}{p:List UInt8}
open XMDc
end
structure RowOK (p:List UInt8)(c:List Nat)(b:Nat):Prop where
 fix:∀k,k<19->∀o ∈ Gf p c b k,c.getD (b*19+k) 0<=oR c o
 got:∀k,k<19->c.getD (b*19+k) 0=1073741824\/(b=p.length/\k=0/\c.getD (b*19+k) 0=0)\/∃o ∈ Gf p c b k,c.getD (b*19+k) 0=oR c o
 fin:b=p.length->c.getD (b*19) 0=0
structure Sol (p:List UInt8)(c:List Nat):Prop where
 len:c.length=(p.length+1)*19
 le:∀j,c.getD j 0<=1073741824
 row:∀b,b<=p.length->RowOK p c b
abbrev cst(c:List Nat)(a st:Nat):Nat:=c.getD (a*19+st) 0
def hd(o:Opt):List Nat:=[o.h0,o.h1,o.h2].take o.sz
def Nl:List Nat->List Nat->Int
 | [],[]=>0
 | [],_::_=>-1
 | _::_,[]=>1
 | a::l,b::m=>if a<b then -1 else if b<a then 1 else Nl l m
def KK(c:List Nat)(cost:Nat)(best o:Opt):Opt:=if oR c o=cost/\(best.sz=0\/Nl (hd o) (hd best)<0) then o else best
def Q3(c:List Nat)(cost:Nat)(L:List Opt):Opt:=L.foldl (KK c cost) KB
def chs(p:List UInt8)(c:List Nat)(a st:Nat):Opt:=Q3 c (cst c a st) (Gf p c a st)
def msk(i:Nat):Nat:=149*(i+1)%255+1
def mk(k:Nat):List Nat->List Nat
 | []=>[]
 | x::l=>((x+msk k)%256)::mk (k+1) l
def Rm(p:List UInt8)(a n:Nat):List Nat:=((p.drop a).take n).map UInt8.toNat
def emit(p:List UInt8)(k a:Nat)(o:Opt):List Nat:=if o.run=0 then hd o else o.h0::mk (k+1) ((hd o).drop 1++Rm p a o.run)
def Mb(p:List UInt8)(c:List Nat):Nat->Nat->Nat->List Nat->List Nat
 | 0,_,_,W=>W
 | f+1,a,st,W=>if st=0/\a=p.length then W else Mb p c f (chs p c a st).nx (chs p c a st).md (W++emit p W.length a (chs p c a st))
section
variable {lo:Nat}{H:Heap}
theorem jQ{v:Value}{l:List Nat}{k:Nat}(h:SlN H v l)(hk:k<l.length):∃b o xs,aJ (.iAddr 1) [v,.int .i64 (k:Nat)] H=some (.pointer (some ⟨b,o,none⟩))/\H.get b=some xs/\xs[o]?=some (aD (l.getD k 0)):=by
 obtain⟨b,o,sp,cap,xs,rfl,h2,h3,h4⟩:=h.els 0 byO;refine⟨b,o+k,xs,?_,h2,h3 k hk⟩;rw[nQ byO byO];simp
open XMDc
variable {sb cb:Nat}{v:Value}{p:List UInt8}{cs:List Nat}
end
section
variable {cp:FuncId->Option CF}{lo:Nat}
def OutH(H:Heap)(b cap:Nat)(W:List Nat):Prop:=∃X,H.get b=some X/\X.length=cap/\X.take W.length=uN W/\W.length<=cap
abbrev RX(b cap:Nat)(W:List Nat):Value:=.slice (some ⟨b,0,none⟩) W.length cap
theorem OutH.keep{H H':Heap}{b b' cap:Nat}{W:List Nat}(h:OutH H b cap W)(e:Keep b' H H')(hne:b≠b'):OutH H' b cap W:=by
 obtain⟨X,h1,h2⟩:=h;exact⟨X,e.get h1 hne,h2⟩
theorem OutH.mono{H H':Heap}{b cap:Nat}{W:List Nat}(h:OutH H b cap W)(e:Ext H H'):OutH H' b cap W:=by
 obtain⟨X,h1,h2⟩:=h;exact⟨X,e.get h1,h2⟩
theorem OutH.sl{H:Heap}{b cap:Nat}{W:List Nat}(h:OutH H b cap W):SlN H (RX b cap W) W:=by
 obtain⟨X,h1,h2,h3,h4⟩:=h;exact .inr ⟨b,0,none,cap,X,rfl,h1,by rw[List.drop_zero];exact h3,byO,.inl rfl,h4⟩
end
section
open XMDc
theorem OS{lo:Nat}{H:Heap}{k:Nat}(hk:k<=100000):Ev cp lo 130 [aD k] H (fun r H'=>H=H'/\r=aD (msk k)):=by
 have em:(149*((k:Int)+1)).tmod 255+1=((149*(k+1)%255+1:Nat):Int):=by rw[Int.tmod_eq_emod_of_nonneg byO];omega
 have hlt:149*(k+1)%255+1<=255:=byO;unfold msk;generalize 149*(k+1)%255+1=w at em hlt;have eq:(149*((k:Int)+1)).tmod 255=(w:Nat)-1:=byO;refine stG rfl rfl ?_;unfold IJ;simp only[kB,aB];refine aL ?_;refine bM ?_;refine⟨rfl,?_⟩;show Value.int .i64 _=Value.int .i64 _;congr 1;omega
end
end Go.Proofs.YtmnlgdpdgjbfgaaGreat
