/- Lemmas. -/
import Derived.Test.YtmnlgdpdgjbfgaaGreatL10
import Derived.Test.YtmnlgdpdgjbfgaaGreatL14
set_option linter.all false
namespace Go.Proofs.YtmnlgdpdgjbfgaaGreat
open Go.Abs Go.RS
variable{H:Heap}{lo:Nat}
set_option maxRecDepth 20000
namespace XGd
def xtr:=zzi @Int.cast_ofNat_Int (zzi @LL (zzi @lA (zzi @kz (zzi @ky (zzi @fv.eq_1 @fvf.eq_1)))))
end XGd
open XGd
theorem order{f:FD}(hf:f.Ok){a:El f}{n:Nat}(hn:@Ord (El f) hf.fd a n)(hn2:n<=f.q):Ev cp lo 192 [fvf f,.int .i64 (a.val:Nat)] H (fun v H'=>Ext H H'/\v=.int .i64 n):=by
 have h2:=hf.two
 letI:=hf.fd
 unfold fvf fv;refine stG rfl rfl ?_;unfold J6;simp only[kB,aC];refine aL ?_;generalize hG:H++[some [Value.int .i64 (FD.ch f:Nat),Value.int .i64 (f.q:Nat),Value.int .i64 (f.poly:Nat)]]=G at *;have g0:G.get H.length=some [Value.int .i64 (FD.ch f:Nat),Value.int .i64 (f.q:Nat),Value.int .i64 (f.poly:Nat)]:=by rw[<-hG];exact aG
 have hxG:Ext H G:=by rw[<-hG];exact Ext.app _ _
 clear hG;refine bH (fun m S H'=>∃(k x:Nat) (z0 z6:Value),1<=k/\k<=n/\m=n-k/\(pw a k).val=x/\Ext H H'/\H'.get H.length=some [Value.int .i64 (FD.ch f:Nat),Value.int .i64 (f.q:Nat),Value.int .i64 (f.poly:Nat)]/\S=[z0,.int .i64 (a.val:Nat),.pointer (some ⟨H.length,0,none⟩),.int .i64 0,.int .i64 (k:Nat),.int .i64 (x:Nat),z6]) (n-1) ?_ ?_
 ·exact⟨1,a.val,_,_,byO,hn.1,rfl,by rw[vC],hxG,g0,rfl⟩
 clear g0 hxG;rintro m S H1 ⟨k,x,z0,z6,hk1,hkn,rfl,hx,hx1,g0,rfl⟩;have hone:(1:El f).val=1:=rfl;have hxl:x<f.q:=by rw[<-hx];exact(pw a k).lt
 (try simp only[aC]);refine bQ ?_ ?_<;>intro h
 ·have hne:x≠1:=by simp at h;omega
  clear h;have hlt:k<n:=by
   apply Decidable.byContradiction;intro hc;have:k=n:=byO;rw[this,hn.2.1,hone]at hx;exact hne hx.symm
  refine aL ?_;refine bY ?_;refine aB (product hf hxl a.lt) ?_;rintro v H2 ⟨hx2,rfl⟩;have g0:=hx2.get g0;have hx2:=hx1.trans hx2;have hmul:eL f x a.val=(pw a (k+1)).val:=by rw[<-hx];rfl
  refine aL ?_;simp only[cN];exact⟨n-(k+1),byO,k+1,(pw a (k+1)).val,_,_,byO,byO,rfl,rfl,hx2,g0,by rw[<-hmul];simp only[ap₀,Int.natCast_one];rfl⟩
 ·have he:x=1:=by simp at h;omega
  clear h;have hkk:k=n:=by
   apply Decidable.byContradiction;intro hc;apply hn.2.2 k byO byO;apply El.ext;rw[hx,he];rfl
  refine aL ?_;refine bU ?_;exact⟨hx1,by rw[<-hkk];rfl⟩
structure Gn {f:FD}(hf:f.Ok)(g:El f):Prop where
 pos:1<=g.val
 ord:@Ord (El f) hf.fd g (f.q-1)
 min:∀x:El f,1<=x.val->x.val<g.val->¬ @Ord (El f) hf.fd x (f.q-1)
theorem BT{f:FD}(hf:f.Ok){g:El f}(hg:Gn hf g):Ev cp lo 161 [fvf f] H (fun v H'=>Ext H H'/\v=.int .i64 (g.val:Nat)):=by
 have h2:=hf.two;have hgl:=g.lt;unfold fvf fv;refine stG rfl rfl ?_;unfold JX;simp only[kB,aC];refine aL ?_;generalize hG:H++[some [Value.int .i64 (FD.ch f:Nat),Value.int .i64 (f.q:Nat),Value.int .i64 (f.poly:Nat)]]=G at *;have g0:G.get H.length=some [Value.int .i64 (FD.ch f:Nat),Value.int .i64 (f.q:Nat),Value.int .i64 (f.poly:Nat)]:=by rw[<-hG];exact aG
 have hxG:Ext H G:=by rw[<-hG];exact Ext.app _ _
 clear hG;have hgp:=hg.pos;refine bH (fun m S H'=>∃(k:Nat) (z0 z4 z5:Value),1<=k/\k<=g.val/\m=g.val-k/\Ext H H'/\H'.get H.length=some [Value.int .i64 (FD.ch f:Nat),Value.int .i64 (f.q:Nat),Value.int .i64 (f.poly:Nat)]/\S=[z0,.pointer (some ⟨H.length,0,none⟩),.int .i64 0,.int .i64 (k:Nat),z4,z5]) (g.val-1) ?_ ?_
 ·exact⟨1,_,_,_,byO,byO,rfl,hxG,g0,rfl⟩
 clear g0 hxG;rintro m S H1 ⟨k,z0,z4,z5,hk1,hkn,rfl,hx1,g0,rfl⟩;obtain⟨n,hn,hnq⟩:∃n,@Ord (El f) hf.fd ⟨k,byO⟩ n/\n<=f.q-1:=by
  letI:=hf.fd
  refine hf.num.ord ⟨k,byO⟩ (fun e=>?_);have:k=0:=congrArg El.val e;omega
 have hnq2:n<=f.q-1:=hnq;(try simp only[aC]);refine bY ?_;refine cU (order hf hn byO) ?_;rintro v H2 ⟨hx2,rfl⟩;have g0:=hx2.get g0;have hx2:=hx1.trans hx2;(try simp only[aC]);refine bQ ?_ ?_<;>intro h
 ·have hne:n≠f.q-1:=by simp at h;omega
  clear h;have hlt:k<g.val:=by
   apply Decidable.byContradiction;intro hc;have hkg:(⟨k,byO⟩:El f)=g:=El.ext (by show k=g.val;omega);rw[hkg]at hn;have h1:=@AY (El f) hf.fd g n (f.q-1) hn hg.ord.2.1;have h3:=@AY (El f) hf.fd g (f.q-1) n hg.ord hn.2.1;exact hne (Nat.dvd_antisymm h1 h3)
  refine aL ?_;simp only[cN];exact⟨g.val-(k+1),byO,k+1,_,_,_,byO,byO,rfl,hx2,g0,ncM⟩
 ·have he:n=f.q-1:=by simp at h;omega
  clear h;have hkk:k=g.val:=by
   apply Decidable.byContradiction;intro hc;rw[he]at hn;exact hg.min ⟨k,byO⟩ hk1 (by show k<g.val;omega) hn
  refine aL ?_;refine bU ?_;exact⟨hx2,by rw[<-hkk];rfl⟩
theorem jg{f:FD}(hf:f.Ok):∃f',OkF (FD.ch f) f.q f.poly f':=⟨f,hf,rfl,rfl,rfl⟩
theorem kN{f:FD}(hf:f.Ok):(f.poly:Int)<=9223372036854775807:=by
 rcases hf with ⟨e,_⟩|⟨_,hP,hP12,hq,hi⟩
 ·omega
 ·have hpb:f.poly<2^13:=bc₀ (dI f.poly) (Nat.pow_le_pow_right byO byO)
  omega
theorem nN{f:FD}(hf:f.Ok){g:El f}(hg:Gn hf g):Ev cp lo 114 [fvf f] H (fun v H'=>Ext H H'/\v=.tuple #[.int .i64 (g.val:Nat),.int .i64 0]):=by
 unfold fvf fv;refine stG rfl rfl ?_;unfold JC;simp only[kB,aC];refine aL ?_;refine bY ?_;refine aB (has (ch:=FD.ch f) (sz:=f.q) (po:=f.poly) (l:=[]) (kN hf) (.inl ⟨rfl,rfl⟩) (by simp)) ?_;rintro v H1 ⟨hx1,b,rfl,hb⟩;have g0:H1.get H.length=some _:=hx1.get bJ;have hx1:=hx1.of_app;have hbt:b=true:=hb.2 ⟨jg hf,rfl⟩;subst hbt;(try simp only[aC]);refine bQ ?_ ?_<;>intro h
 ·cases h
 clear h;(try simp only[aC]);refine bY ?_;refine aB (BT hf hg) ?_;rintro v H2 ⟨hx2,rfl⟩;refine aL ?_;refine bU ?_;exact⟨hx1.trans hx2,rfl⟩
theorem zx{q a b:Nat}(ha:a<q)(hb:b<q):inF q [(a:Int),(b:Int)]=true:=by
 rw[jF];intro x hx;simp at hx;rcases hx with rfl|rfl<;>omega
theorem Ca{f:FD}(hf:f.Ok){a b:Nat}(ha:a<f.q)(hb:b<f.q):Ev cp lo 115 [fvf f,.int .i64 a,.int .i64 b] H (fun v H'=>Ext H H'/\v=.tuple #[.int .i64 (eL f a b:Nat),.int .i64 0]):=by
 unfold fvf fv;refine stG rfl rfl ?_;unfold JE;simp only[kB,aC];refine aL ?_;refine bY ?_;refine aB (has (ch:=FD.ch f) (sz:=f.q) (po:=f.poly) (l:=[(a:Int),(b:Int)]) (kN hf) (.inr ⟨_,0,none,_,_,rfl,bL,rfl,by simp,.inl rfl,by simp⟩) (by simp)) ?_;rintro v H1 ⟨hx1,bb,rfl,hbb⟩;have g0:H1.get H.length=some _:=hx1.get bJ;have hx1:=hx1.of_app;have hbt:bb=true:=hbb.2 ⟨jg hf,zx ha hb⟩;subst hbt;(try simp only[aC]);refine bQ ?_ ?_<;>intro h
 ·cases h
 clear h;(try simp only[aC]);refine bY ?_;refine aB (product hf ha hb) ?_;rintro v H2 ⟨hx2,rfl⟩;refine aL ?_;refine bU ?_;exact⟨hx1.trans hx2,rfl⟩
def uW(f:FD)(a b:Nat):Nat:=if f.poly=0 then(a+f.q-b)%f.q else a ^^^ b
theorem zp{f:FD}(hf:f.Ok){a b:Nat}(ha:a<f.q)(hb:b<f.q):uW f a b=fg f a (ql f b):=by
 unfold uW fg ql;split
 ·rw[Nat.add_mod_mod,show a+(f.q-b)=a+f.q-b by omega]
 ·rfl
theorem Af{f:FD}{a b:Nat}(h2:2<=f.q)(ha:a<f.q)(hb:b<f.q):((a:Int)-b+f.q).tmod (f.q:Int)=(((a+f.q-b)%f.q:Nat):Int):=by
 rw[Int.tmod_eq_emod_of_nonneg byO,show(a:Int)-b+f.q=((a+f.q-b:Nat):Int) by omega];rfl
theorem Ky{f:FD}(hf:f.Ok){a b:Nat}(ha:a<f.q)(hb:b<f.q):Ev cp lo 63 [fvf f,.int .i64 a,.int .i64 b] H (fun v H'=>Ext H H'/\v=.tuple #[.int .i64 (uW f a b:Nat),.int .i64 0]):=by
 have h2:=hf.two;unfold fvf fv;refine stG rfl rfl ?_;unfold OE;simp only[kB,aC];refine aL ?_;refine bY ?_;refine aB (has (ch:=FD.ch f) (sz:=f.q) (po:=f.poly) (l:=[(a:Int),(b:Int)]) (kN hf) (.inr ⟨_,0,none,_,_,rfl,bL,rfl,by simp,.inl rfl,by simp⟩) (by simp)) ?_;rintro v H1 ⟨hx1,bb,rfl,hbb⟩;have g0:H1.get H.length=some _:=hx1.get bJ;have hx1:=hx1.of_app;have hbt:bb=true:=hbb.2 ⟨jg hf,zx ha hb⟩;subst hbt;(try simp only[aC]);refine bQ ?_ ?_<;>intro h
 ·cases h
 clear h;have e1:=oM (a:=a) (b:=b) byO byO;have e2:=Af h2.1 ha hb;(try simp only[aC]);refine bQ ?_ ?_<;>intro h
 ·have hp:¬ f.poly=0:=by simp at h;omega
  clear h;refine aL ?_;refine bU ?_;refine⟨hx1,?_⟩;unfold uW;rw[if_neg hp];rfl
 ·have hp:f.poly=0:=by simp at h;omega
  clear h;refine aL ?_;refine bU ?_;refine⟨hx1,?_⟩;unfold uW;rw[if_pos hp];rfl
open Go.Abs Go.RS
section
variable {f:FD}[OkC f]
theorem n9{g:El f}(h:Gn (OkC.ok (f:=f)) g):g≠0:=fun e=>by
 have h1:=h.pos;rw[e,Ak]at h1;omega
theorem jS{g:El f}(h:Gn (OkC.ok (f:=f)) g):Ord g (f.q-1):=h.ord
theorem qle:2<=f.q/\f.q<=4096:=(OkC.ok (f:=f)).two
structure ArH (H:Heap)(g:El f)(be bl:Nat):Prop where
 ex:∃E:List Int,H.get be=some (ah E)/\E.length=f.q-1/\∀n,n<f.q-1->E.getD n 0=((pw g n).val:Nat)
 lg:∃L:List Int,H.get bl=some (ah L)/\L.length=f.q/\∀n,n<f.q-1->L.getD (pw g n).val 0=(n:Nat)
theorem ArH.mono{H H':Heap}{g:El f}{be bl:Nat}(h:ArH H g be bl)(e:Ext H H'):ArH H' g be bl:=by
 obtain⟨⟨E,a,b⟩,⟨L,c,d⟩⟩:=h;exact⟨⟨E,e.get a,b⟩,⟨L,e.get c,d⟩⟩
theorem ArH.lt{H:Heap}{g:El f}{be bl:Nat}(h:ArH H g be bl):be<H.length/\bl<H.length:=by
 obtain⟨⟨E,a,b⟩,⟨L,c,d⟩⟩:=h;exact⟨Heap.get_lt a,Heap.get_lt c⟩
theorem ArH.keep{b:Nat}{H H':Heap}{g:El f}{be bl:Nat}(h:ArH H g be bl)(e:Keep b H H')(h1:be≠b)(h2:bl≠b):ArH H' g be bl:=by
 obtain⟨⟨E,a,b⟩,⟨L,c,d⟩⟩:=h;exact⟨⟨E,e.get a h1,b⟩,⟨L,e.get c h2,d⟩⟩
end
def arC(f:FD)(be bl:Nat):List Value:=[.int .i64 (FD.ch f:Nat),.int .i64 (f.q:Nat),.slice (some ⟨be,0,none⟩) (f.q-1) (f.q-1),.slice (some ⟨bl,0,none⟩) f.q f.q]
def arV(f:FD)(be bl:Nat):Value:=.agg #[.int .i64 (FD.ch f:Nat),.int .i64 (f.q:Nat),.slice (some ⟨be,0,none⟩) (f.q-1) (f.q-1),.slice (some ⟨bl,0,none⟩) f.q f.q]
theorem LP{f:FD}(hf:f.Ok):FD.ch f=2↔f.poly≠0:=by
 unfold FD.ch;rcases hf with ⟨e,h1,_⟩|⟨e,_⟩
 ·rw[if_pos e];simp[e];omega
 ·rw[if_neg e];simp[e]
theorem fR{l:List Int}{i:Nat}{v:Int}(h:i<l.length):(l.set i v).getD i 0=v:=by
 rw[au₀,List.getElem?_set_self h];rfl
theorem gk{l:List Int}{i j:Nat}{v:Int}(h:i≠j):(l.set i v).getD j 0=l.getD j 0:=by
 rw[au₀,List.getElem?_set_ne h,<-au₀]
end Go.Proofs.YtmnlgdpdgjbfgaaGreat
namespace Go.Proofs.YtmnlgdpdgjbfgaaGreat
open Go.Abs Go.RS
variable{H:Heap}{lo:Nat}{v:Value}
section
variable {f:FD}[OkC f]
namespace XArR
def xtr:=zzi @Int.cast_ofNat_Int (zzi @fv.eq_1 @fvf.eq_1)
end XArR
open XArR
set_option maxHeartbeats 1000000 in
theorem Bg{g:El f}(hlo:lo<=H.length)(hg:Gn (OkC.ok (f:=f)) g):Ev cp lo 71 [fvf f] H (fun v H'=>Ext H H'/\∃be bl,H.length<=be/\H.length<=bl/\v=arV f be bl/\ArH H' g be bl):=by
 have h2:=qle (f:=f);have hinj:=vA (n9 hg) (jS hg);unfold fvf fv;refine stG rfl rfl ?_;unfold OF;simp only[kB,aC];refine aL ?_;refine bY ?_;refine aB (nN (OkC.ok (f:=f)) hg) ?_;rintro v H1 ⟨hx1,rfl⟩;have g0:H1.get H.length=some _:=hx1.get bJ;have g1:H1.get (H.length+1)=some _:=hx1.get bJ;have hx1:=hx1.of_app;have hl1:=Heap.get_lt g1;have hq1:((f.q:Int)-1).toNat=f.q-1:=byO;refine aL ?_;generalize hM:H1.length=M at *;refine aa (fun i S H'=>Ext H H'/\M+2<H'.length/\H'.get H.length=some [.int .i64 (FD.ch f:Nat),.int .i64 (f.q:Nat),.int .i64 (f.poly:Nat)]/\H'.get (H.length+1)=some [.int .i64 0,.int .i64 0,.slice none 0 0,.slice none 0 0]/\H'.get (M+2)=some (arC f M (M+1)) /\
  ∃E L:List Int,H'.get M=some (ah E)/\H'.get (M+1)=some (ah L)/\E.length=f.q-1/\L.length=f.q/\(∀k,k<i->E.getD k 0=((pw g k).val:Nat))/\(∀k,k<i->L.getD (pw g k).val 0=(k:Nat))/\∃(z:Nat->Value),S=[z 0,.pointer (some ⟨H.length,0,none⟩),.pointer (some ⟨H.length+1,0,none⟩),.int .i64 (g.val:Nat),.pointer (some ⟨M+2,0,none⟩),.int .i64 ((pw g i).val:Nat),z 6,z 7,z 8,z 9,z 10,z 11,z 12,z 13,.int .i64 ((f.q-1:Nat):Int),.int .i64 (i:Nat),z 16,z 17,z 18,z 19,z 20,z 21]) (f.q-1) ?_ ?_ ?_ ?_
 ·refine⟨hx1.trans (Ext.app _ _),by simp;omega,by simp(disch:=try exact dO)only[evB,xtr,Nat.reduceAdd,Nat.reduceBEq, *],by simp(disch:=try exact dO)only[evB,xtr,Nat.reduceAdd,Nat.reduceBEq, *],?_,List.replicate (f.q-1) 0,List.replicate f.q 0,?_,?_,by simp,by simp,by omega,by omega,aJ rfl⟩
  ·rw[<-hM,bL];rfl
  ·rw[<-hM,aG]
  ·rw[<-hM,bL];rfl
 ·rintro i S H' hi ⟨hx,hl,f0,f1,f2,E,L,fE,fL,hE,hL,hEa,hLa,z,rfl⟩
  exact⟨_,bJ,by simp⟩
 ·rintro i S H2 hi ⟨hx,hl,f0,f1,f2,E,L,fE,fL,hE,hL,hEa,hLa,z,rfl⟩
  unfold arC at f2;have hxv:=(pw g i).lt;have hE2:E.length<=f.q-1/\f.q-1<=E.length:=byO;have hL2:L.length<=f.q/\f.q<=L.length:=byO;have hnat:((i:Nat):Int)<((f.q-1:Nat):Int):=byO;clear hE hL;refine aL ?_;refine zQ bJ bJ (.inr (by simp[aV])) ?_;(try simp only[aC]);refine bY ?_;have hEx:Ext H (List.set (List.set H2 M (some (ah (E.set i ↑(pw g i).val)))) (M+1) (some (ah (L.set (pw g i).val ↑i)))):=(hx.set byO).set byO;refine aB (Ca (f:=f) (OkC.ok (f:=f)) hxv g.lt) ?_;rintro v H3 ⟨hx3,rfl⟩;have hmul:eL f (pw g i).val g.val=(pw g (i+1)).val:=rfl;have f0:=hx3.get (i:=H.length) (by rw[aI byO,aI byO];exact f0);have f1:=hx3.get (i:=H.length+1) (by rw[aI byO,aI byO];exact f1);have f2:=hx3.get (i:=M+2) (by rw[aI byO,aI byO];exact f2);have fE:=hx3.get (i:=M) (by rw[aI byO,aF byO]);have fL:=hx3.get (i:=M+1) (by rw[aF (by simp;omega)]);have hl3:=Heap.get_lt f2;have hx3:=hEx.trans hx3;refine aL ?_;refine⟨hx3,hl3,f0,f1,f2,_,_,fE,fL,by simp;omega,by simp;omega,fun k hk=>?_,fun k hk=>?_,aJ ncM⟩
  ·by_cases e:k=i
   ·subst e;rw[fR byO]
   ·rw[gk (fun h=>e h.symm)];exact hEa k byO
  ·by_cases e:k=i
   ·subst e;rw[fR byO]
   ·rw[gk (fun h=>e (hinj k i byO hi (El.ext h.symm)))];exact hLa k byO
 ·rintro S H2 ⟨hx,hl,f0,f1,f2,E,L,fE,fL,hE,hL,hEa,hLa,z,rfl⟩
  unfold arC at f2;refine aL ?_;refine bU ?_;exact⟨hx.set byO,M,M+1,byO,byO,rfl,⟨E,by rw[aI byO];exact fE,hE,hEa⟩,⟨L,by rw[aI byO];exact fL,hL,hLa⟩⟩
theorem NG{be bl:Nat}{g:El f}(hg:Gn (OkC.ok (f:=f)) g)(ha:ArH H g be bl)(n:Nat)(hn:n<=1000000000000):Ev cp lo 103 [arV f be bl,.int .i64 n] H (fun v H'=>Ext H H'/\v=.int .i64 ((pw g n).val:Nat)):=by
 have h2:=qle (f:=f);have hbl:=ha.lt;obtain⟨⟨E,gE,hE,hEa⟩,_⟩:=ha;have hml:n%(f.q-1)<f.q-1:=Nat.mod_lt _ byO;have hev:=hEa _ hml;have hmod:(n:Int).tmod ((f.q:Int)-1)=((n%(f.q-1):Nat):Int):=by
  rw[Int.tmod_eq_emod_of_nonneg byO,show((f.q:Int)-1)=((f.q-1:Nat):Int) by omega];rfl
 have hE2:E.length<=f.q-1/\f.q-1<=E.length:=byO;clear hE hEa;rw[<-vB (jS hg).2.1 n];unfold arV;refine stG rfl rfl ?_;unfold Ix;simp only[kB,aC];refine aL ?_;refine bU ?_;exact⟨Ext.app _ _,rfl⟩
end
open Go.Abs Go.RS
section
variable {f:FD}[OkC f]
def sR(x:El f):Value:=.int .i64 (x.val:Nat)
def elL(l:List (El f)):List Value:=l.map sR
abbrev SlE(H:Heap)(v:Value)(l:List (El f)):Prop:=Sl (sR (f:=f)) H v l
theorem eg(l:List (El f)):(elL l).length=l.length:=by simp[elL]
theorem kt{l:List (El f)}{i:Nat}(h:i<l.length):(elL l)[i]?=some (.int .i64 ((l.getD i 0).val:Nat)):=by
 simp[elL,sR,bb₀ h,au₀]
theorem gH(l:List (El f))(i:Nat)(v:El f):(elL l).set i (.int .i64 (v.val:Nat))=elL (l.set i v):=by simp[elL,sR,List.map_set]
theorem jN(n:Nat):ah (List.replicate n 0)=elL (List.replicate n (0:El f)):=by
 simp[elL,ah,sR,Ak]
theorem nC{l:List (El f)}(h:SlE H v l)(hl:0<l.length):∃b o sp cap xs,v=.slice (some ⟨b,o,sp⟩) l.length cap/\H.get b=some xs/\(∀i,i<l.length->xs[o+i]?=some (.int .i64 ((co l i).val:Nat)))/\o+l.length<=xs.length:=by
 obtain⟨b,o,sp,cap,xs,h1,h2,h3,h4⟩:=h.els 0 hl;exact⟨b,o,sp,cap,xs,h1,h2,h3,h4⟩
theorem iH{b n:Nat}{sp:Option Nat}{l:List (El f)}(h:H.get b=some (elL l))(hn:l.length=n)(hsp:sp=none\/sp=some 1:=by first|exact .inl rfl|exact .inr rfl):SlE H (.slice (some ⟨b,0,sp⟩) n n) l:=Sl.whole h hn hsp
namespace XGf
def xtr:=zzi @Int.cast_ofNat_Int (zzi @arC.eq_1 (zzi @kt (zzi @eg (zzi @gH @jN))))
end XGf
open XGf
theorem vL{d:Nat}{c:List Value}(h:H.get d=some c):H.set d (some c)=H:=by
 have hl:=Heap.get_lt h;apply List.ext_getElem (by simp);intro i h1 h2;rw[List.getElem_set];split
 ·rename_i e
  subst e;rw[eE,bb₀ hl]at h;revert h;cases H[d]with
  | none=>intro h;simp at h
  | some x=>intro h;simp at h;rw[h]
 ·rfl
theorem zh(l:List (El f)):oneCells (elL l)=true:=by simp[elL,sR,oneCells,Value.oneCell']
theorem Ik{p D:List (El f)}{d n c:Nat}{R:Value->Heap->Prop}(hlo:lo<=d)(hd:H.get d=some (elL D))(hn:D.length=n)(hp:SlE H v p)(hl:p.length<=D.length)(k:∀w,R w (H.set d (some (elL (p++D.drop p.length))))):wpH cp lo (.cpy 1) [.slice (some ⟨d,0,none⟩) n c,v] H R:=by
 simp only[wpH];rcases hp with ⟨rfl,rfl⟩|⟨b,o,sp,cap,xs,rfl,hb,hx,hlen,-⟩
 ·simp only[cL,hsem,if_true]
  have:=k (.int .i64 0);simp only[an₀,List.drop_zero,List.nil_append]at this;rwa [vL hd]at this
 ·rw[yW hlo,hb,hd]
  have hx2:(xs.drop o).take p.length=elL p:=hx;have hmin:min p.length n*1=p.length:=byO;simp only[hmin,hlen,hx2,zh,and_self,if_true,Nat.zero_add,eg,hl];have hpc:putCells (elL D) 0 (elL p)=elL (p++D.drop p.length):=by
   simp[putCells,elL]
  rw[hpc];exact k _
theorem vY(p:List (El f)){N:Nat}(h:p.length<=N):p++(List.replicate N (0:El f)).drop p.length=tab N (co p):=by
 apply F9
 ·simp;omega
 ·intro i hi
  unfold co;rw[au₀,au₀];by_cases hlt:i<p.length
  ·rw[ax₀ hlt]
  ·rw[aw₀ byO,av₀ (l:=p) byO]
   simp only[List.getElem?_drop,List.getElem?_replicate];split<;>rfl
end
open Go.Abs Go.RS
section
variable {f:FD}[OkC f]
theorem fZ{H G:Heap}{c:List Value}{L:Heap}(h:H++some c::L=G):G.get H.length=some c/\Ext H G:=by
 subst h;exact⟨aG,Ext.app _ _⟩
open XGf
def NewV(n:Nat)(v:Value):Prop:=∀b o sp k c,v=.slice (some ⟨b,o,sp⟩) k c->n<=b
theorem NewV.own{lo sz n b:Nat}{H:Heap}{v:Value}{c:List Value}(h:Own lo sz H v b c)(hn:n<=b):NewV n v:=by
 intro b' o sp k c' e;obtain⟨_,⟨rfl,_⟩|⟨m,_,_,rfl,_⟩⟩:=h
 ·cases e
 ·cases e;exact hn
theorem NewV.mk{n b o:Nat}{sp:Option Nat}{k c:Nat}(h:n<=b):NewV n (.slice (some ⟨b,o,sp⟩) k c):=by
 intro b' o' sp' k' c' e;cases e;exact h
theorem NewV.mono{n m:Nat}{v:Value}(h:NewV n v)(hm:m<=n):NewV m v:=fun b o sp k c e=>Nat.le_trans hm (h b o sp k c e)
theorem I8{α:Type}{enc:α->Value}{H H':Heap}{l:List α}{n b:Nat}(h:Sl enc H v l)(hn:NewV n v)(e:Keep b H H')(hb:b<n):Sl enc H' v l:=by
 rcases h with h|⟨b',o,sp,cap,xs,h1,h2,h3⟩
 ·exact .inl h
 ·have:=hn _ _ _ _ _ h1
  exact .inr ⟨b',o,sp,cap,xs,h1,e.get h2 byO,h3⟩
end
def cdC(f:FD)(r b:Nat):List Value:=[.int .i64 (FD.ch f:Nat),.int .i64 (f.q:Nat),.int .i64 (f.poly:Nat),.int .i64 r,.int .i64 b]
def cdV(f:FD)(r b:Nat):Value:=.agg #[.int .i64 (FD.ch f:Nat),.int .i64 (f.q:Nat),.int .i64 (f.poly:Nat),.int .i64 r,.int .i64 b]
section
variable {f:FD}[OkC f]
namespace XGh
def xtr:=zzi @Int.cast_ofNat_Int (zzi @arC.eq_1 (zzi @cdC.eq_1 (zzi @kt (zzi @eg (zzi @gH @jN)))))
end XGh
open XGh
end
end Go.Proofs.YtmnlgdpdgjbfgaaGreat
