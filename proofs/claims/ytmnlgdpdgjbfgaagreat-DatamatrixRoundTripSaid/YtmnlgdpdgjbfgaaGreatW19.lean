/- Lemmas. -/
import Derived.Test.YtmnlgdpdgjbfgaaGreatW10
import Derived.Test.YtmnlgdpdgjbfgaaGreatW17
import Derived.Test.YtmnlgdpdgjbfgaaGreatW18
set_option linter.all false
namespace Go.Proofs.YtmnlgdpdgjbfgaaGreat
open Go.Abs Go.RS
variable{H:Heap}{lo:Nat}
set_option maxRecDepth 20000
def cdI(ch sz po r b:Int):Value:=.agg #[.int .i64 ch,.int .i64 sz,.int .i64 po,.int .i64 r,.int .i64 b]
def yh(ch sz po r b:Int):Prop:=(∃f,OkF ch sz po f)/\1<=r/\r<=sz-2/\0<=b/\b<=sz-2
theorem GC{ch sz po:Int}(h:∃f,OkF ch sz po f):2<=sz/\sz<=4096:=by
 obtain⟨f,hf,h1,_⟩:=h;have:=hf.two;omega
namespace XRa
def xtr:=zzi @Int.cast_ofNat_Int (zzi @fv.eq_1 (zzi @fvf.eq_1 (zzi @ite_self.{1} (zzi @lT (zzi @lS @lR)))))
end XRa
open XRa
theorem fits{ch sz po r b:Int}(hs:-9223372036854775000<=sz)(hs2:sz<=9223372036854775807):Ev cp lo 101 [fv ch sz po,.int .i64 r,.int .i64 b] H (fun v H'=>Ext H H'/\v=.bool (((decide (1<=r)&&decide (r<=sz-2))&&decide (0<=b))&&decide (b<=sz-2))):=by
 unfold fv;refine stG rfl rfl ?_;unfold KT;simp only[kB,aC];refine aD ?_;refine az ?_;exact⟨Ext.app _ _,rfl⟩
set_option maxHeartbeats 1000000 in
theorem wR{ch sz po r b:Int}{v:Value}{l:List Int}(hb:po<=9223372036854775807)(hl:SlI H v l)(hll:l.length<=9223372036854775807):Ev cp lo 58 [cdI ch sz po r b,v] H (fun v H'=>Ext H H'/\∃t,v=.bool t/\(t=true↔yh ch sz po r b/\inF sz l=true)):=by
 have hl0:=hl;obtain⟨ad,c,rfl⟩:=hl.len;unfold cdI;refine stG rfl rfl ?_;unfold PW;simp only[kB,aC];refine aD ?_;refine aV ?_;refine aA (valid (ch:=ch) (sz:=sz) (po:=po) hb) ?_;rintro v H1 ⟨hx1,t1,rfl,ht1⟩;have g0:H1.get H.length=some _:=hx1.get bD;have hx1:=hx1.of_app;cases t1 with
 | false=>
  have hnf:¬ ∃f,OkF ch sz po f:=fun h=>by have:=ht1.2 h;cases this
  (try simp only[aC]);refine bJ (t:=false) bD ki qV (fun h=>by cases h) (fun _=>?_);(try simp only[aC]);refine bJ (t:=false) bD ki qV (fun h=>by cases h) (fun _=>?_);refine aD ?_;refine az ?_;exact⟨hx1,false,rfl,by simp;intro h;exact absurd h.1 hnf⟩
 | true=>
  have hf:=ht1.1 rfl;have hsz:=GC hf;(try simp only[aC]);refine bJ (t:=true) bD ki qV (fun _=>⟨_,bD,?_⟩) (fun h=>by cases h);refine aA (fits (ch:=ch) (sz:=sz) (po:=po) (r:=r) (b:=b) byO byO) ?_;rintro v H2 ⟨hx2,rfl⟩;have g0:=hx2.get g0;have hx2:=hx1.trans hx2;generalize ht2:(((decide (1<=r)&&decide (r<=sz-2))&&decide (0<=b))&&decide (b<=sz-2))=t2;have ht2':t2=true↔1<=r/\r<=sz-2/\0<=b/\b<=sz-2:=by
   rw[<-ht2];simp only[ac₀,af₀];omega
  clear ht2;cases t2 with
  | false=>
   have hnf:¬ (1<=r/\r<=sz-2/\0<=b/\b<=sz-2):=fun h=>by have:=ht2'.2 h;cases this
   (try simp only[aC]);refine bJ (t:=false) bD ki qV (fun h=>by cases h) (fun _=>?_);refine aD ?_;refine az ?_;exact⟨hx2,false,rfl,by simp;intro h;exact absurd h.2 hnf⟩
  | true=>
   (try simp only[aC]);refine bJ (t:=true) bD ki qV (fun _=>⟨_,bD,?_⟩) (fun h=>by cases h);refine aA (CH (ch:=ch) (sz:=sz) (po:=po) (hl0.mono hx2) hll) ?_;rintro v H3 ⟨hx3,rfl⟩;refine aD ?_;refine az ?_;exact⟨hx2.trans hx3,inF sz l,rfl,⟨fun h=>⟨⟨hf,ht2'.1 rfl⟩,h⟩,fun h=>h.2⟩⟩
theorem QR{ch sz po r b n:Int}:Ev cp lo 59 [cdI ch sz po r b,.int .i64 n] H (fun v H'=>Ext H H'/\v=.bool (decide (r<n)&&decide (n<sz))):=by
 unfold cdI;refine stG rfl rfl ?_;unfold PX;simp only[kB,aC];refine aD ?_;refine az ?_;exact⟨Ext.app _ _,rfl⟩
theorem RP{f:FD}{l:List Int}(h:inF (f.q:Int) l=true):∃le:List (El f),l=le.map fun x=>(x.val:Int):=by
 induction l with
 | nil=>exact⟨[],rfl⟩
 | cons a l ih=>
  have h2:=iE.1 h;have ha:=h2 a (by simp);obtain⟨le,hle⟩:=ih (iE.2 fun x hx=>h2 x (by simp[hx]));refine⟨⟨a.toNat,byO⟩::le,?_⟩;rw[hle];simp;omega
end Go.Proofs.YtmnlgdpdgjbfgaaGreat
namespace Go.Proofs.YtmnlgdpdgjbfgaaGreat
open Go.Abs Go.RS
variable{H:Heap}
section
variable {ch sz po r b:Int}{v:Value}{l:List Int}{lo:Nat}{H:Heap}
end
section
variable {f:FD}[OkC f]
theorem B3{v:Value}{l:List (El f)}(h:SlI H v (eH l)):SlE H v l:=by
 rcases h with ⟨h1,h2⟩|⟨b,o,sp,cap,xs,h1,h2,h3,h4⟩
 ·exact .inl ⟨h1,by simpa[eH]using h2⟩
 ·refine .inr ⟨b,o,sp,cap,xs,by rw[h1];simp[eH],h2,?_,by simpa[eH]using h4⟩
  simp only[eH,ay₀,List.map_map]at h3;exact h3
structure CdOK (f:FD)(r b:Nat):Prop where
 r1:1<=r
 r2:r<=f.q-2
 b2:b<=f.q-2
theorem vn{r b:Nat}(h:CdOK f r b):yh (FD.ch f) f.q f.poly r b:=by
 have h2:=qle (f:=f);obtain⟨a,b,c⟩:=h;exact⟨jk (OkC.ok (f:=f)),byO,byO,byO,byO⟩
namespace XRb
def xtr:=zzi @Int.cast_ofNat_Int (zzi @fv.eq_1 (zzi @fvf.eq_1 (zzi @ite_self.{1} (zzi @lT (zzi @lS (zzi @lR (zzi @cdC.eq_1 (zzi @arC.eq_1 (zzi @lK (zzi @dQ (zzi @gU @jV)))))))))))
end XRb
open XRb
theorem I3{lo:Nat}{g:El f}{r b:Nat}(hlo:lo<=H.length)(hg:Gn (OkC.ok (f:=f)) g)(hc:CdOK f r b):Ev cp lo 60 [cdV f r b] H (fun v H'=>Ext H H'/\∃vs,v=.tuple #[vs,.int .i64 0]/\SlE H' vs (qR (fun i=>pw g (b+i)) r)):=by
 have h2:=qle (f:=f);have hok:=vn hc;obtain⟨c1,c2,c3⟩:=hc;unfold cdV;refine stG rfl rfl ?_;unfold PY;simp only[kB,aC];refine aD ?_;refine aV ?_;refine aA (wR (ch:=FD.ch f) (sz:=f.q) (po:=f.poly) (r:=r) (b:=b) (l:=[]) (jR (OkC.ok (f:=f))) (.inl ⟨rfl,rfl⟩) (by simp)) ?_;rintro v H1 ⟨hx1,t,rfl,ht⟩;have g0:H1.get H.length=some _:=hx1.get bD;have hx1:=hx1.of_app;have htt:t=true:=ht.2 ⟨hok,rfl⟩;subst htt;have hl1:=hx1.1;(try simp only[aC]);refine ah ?_ ?_<;>intro h
 ·cases h
 clear h;(try simp only[aC]);refine aV ?_;refine aA (uK (f:=f) byO hg) ?_;rintro v H2 ⟨hx2,be,bl,hbe,hbl,rfl,harith⟩;have hbe2:=harith.lt;have g0:=hx2.get g0;have hx2:=hx1.trans hx2;have hl2:=Heap.get_lt g0;unfold arV;refine aD ?_;generalize hG:H2++_=G at *;have g1:G.get H2.length=some (arC f be bl):=by rw[<-hG];exact aH
 have g2:G.get (H2.length+1)=some (elL (tab r (fun _=>(0:El f)))):=by rw[<-hG,bO,eu];rfl
 have g0:G.get H.length=some (cdC f r b):=by rw[<-hG,aP byO];exact g0
 have hxG:Ext H2 G:=by rw[<-hG];exact Ext.app _ _
 have harith:=harith.mono hxG;have hal:=harith.lt;clear hG;have hxG:=hx2.trans hxG;generalize hp2:H2.length=p2 at *;refine aT (fun i S H'=>Ext H H'/\H'.get H.length=some (cdC f r b)/\H'.get p2=some (arC f be bl)/\ArH H' g be bl/\H'.get (p2+1)=some (elL (tab r (fun k=>if k<i then pw g (b+k) else 0)))/\∃(z:Nat->Value),S=[z 0,.pointer (some ⟨H.length,0,none⟩),.slice none 0 0,.int .i64 0,.pointer (some ⟨p2,0,none⟩),.slice (some ⟨p2+1,0,none⟩) r r,z 6,z 7,z 8,z 9,.int .i64 (r:Nat),.int .i64 (i:Nat),z 12,z 13,z 14,z 15]) r ?_ ?_ ?_ ?_
 ·refine⟨hxG,g0,g1,harith,?_,aJ rfl⟩
  rw[g2];refine congrArg (fun t=>some (elL t)) ?_;exact aS fun k _=>(if_neg byO).symm
 ·rintro i S H' hi ⟨hx,f0,f1,fa,f2,z,rfl⟩
  exact⟨_,bD,by simp⟩
 ·clear g0 g1 g2 hxG harith hal
  rintro i S H3 hi ⟨hx3,f0,f1,fa,f2,z,rfl⟩;have hset:(tab r (fun k=>if k<i then pw g (b+k) else 0)).set i (pw g (b+i))=tab r (fun k=>if k<i+1 then pw g (b+k) else 0):=by
   rw[gO];refine aS fun k hk=>?_;by_cases e:k=i
   ·rw[if_pos e,if_pos byO,e]
   ·rw[if_neg e]
    by_cases h2:k<i
    ·rw[if_pos h2,if_pos byO]
    ·rw[if_neg h2,if_neg byO]
  have hlen2:(tab r (fun k=>if k<i then pw g (b+k) else 0)).length<=r/\r<=(tab r (fun k=>if k<i then pw g (b+k) else 0)).length:=by rw[aK];omega
  generalize tab r (fun k=>if k<i then pw g (b+k) else 0)=T at *;have hbi:((b:Int)+(i:Int))=((b+i:Nat):Int):=byO;refine aD ?_;refine aV ?_;refine aA (pP hg fa (b+i) byO) ?_;rintro v H4 ⟨hx4,rfl⟩;have f0:=(hx4).get f0;have f1:=(hx4).get f1;have f2:=(hx4).get f2;have fa:=fa.mono hx4;have hx4:=hx3.trans hx4;have hl4:=Heap.get_lt f2;clear hbi;refine aD ?_;exact⟨hx4.set (by omega),by simp(disch:=try exact dO)only[evB,xtr,Nat.reduceAdd,Nat.reduceBEq, *],by simp(disch:=try exact dO)only[evB,xtr,Nat.reduceAdd,Nat.reduceBEq, *],fa.keep ⟨by simp,fun i hi hne=>aF (fun e=>hne e.symm)⟩ (by omega) (by omega),by rw[aE (by omega)],aJ ncM⟩
 ·rintro S H3 ⟨hx3,f0,f1,fa,f2,z,rfl⟩
  have hT:tab r (fun k=>if k<r then pw g (b+k) else 0)=tab r (fun k=>pw g (b+k)):=aS fun k hk=>if_pos hk;rw[hT]at f2;have hl3:=hx3.1;have hrl:=aK r (fun k=>pw g (b+k));(try simp only[aC]);refine aV ?_;refine aA (zU byO hg (cK (sp:=none) f2 hrl) (by rw[hrl];omega)) ?_;rintro v H4 ⟨hx4,vp,rfl,f4⟩;rw[hrl]at f4;have hgp:qR (co (tab r (fun k=>pw g (b+k)))) r=qR (fun i=>pw g (b+i)) r:=by
   unfold qR;rw[xd (fun i hi=>by rw[cm,if_pos hi])]
  rw[hgp]at f4;refine aD ?_;refine az ?_;exact⟨hx3.trans hx4,_,rfl,f4⟩
end
open Go.Abs Go.RS
section
variable {f:FD}[OkC f]
structure IsEnc (g:El f)(r b:Nat)(d w:List (El f)):Prop where
 len:w.length=d.length+r
 dat:∀i,i<d.length->co w i=co d i
 cw:HZ (fun i=>pw g (b+i)) r w
theorem O0{g:El f}(hg:Gn (OkC.ok (f:=f)) g){r b:Nat}(hc:CdOK f r b):∀i j,i<r->j<r->pw g (b+i)=pw g (b+j)->i=j:=by
 intro i j hi hj e;have h2:=qle (f:=f);rw[eh,eh]at e;have e2:=mul_left_cancel (cJ (gz hg) b) e;exact sU (gz hg) (df hg) i j (by have:=hc.r2;omega) (by have:=hc.r2;omega) e2
theorem Ec{g:El f}(hg:Gn (OkC.ok (f:=f)) g){r b:Nat}(hc:CdOK f r b){d w w':List (El f)}(h:IsEnc g r b d w)(h':IsEnc g r b d w'):w=w':=by
 have hl:=h.len;have hl':=h'.len;refine Hz hc.r1 (O0 hg hc) (fun i _=>cJ (gz hg) _) h.cw h'.cw byO byO (fun i hi=>?_);rw[h.dat i byO,h'.dat i byO]
theorem Jz{R:List (El f)}{r:Nat}(h:∀k,r<=k->co R k=0):(trim R).length<=r:=by
 apply Decidable.byContradiction;intro hc;have hne:trim R≠[]:=by intro e;rw[e]at hc;simp at hc
 exact oe R hne (h _ byO)
open XRb
set_option maxHeartbeats 4000000 in
theorem Eb{lo:Nat}{g:El f}{v:Value}{d:List (El f)}{r b:Nat}(hlo:lo<=H.length)(hg:Gn (OkC.ok (f:=f)) g)(hc:CdOK f r b)(hd:SlE H v d)(hdl:d.length<=10000000) :
  Ev cp lo 29 [cdV f r b,v] H (fun v H'=>Ext H H'/\((0<d.length/\d.length+r<f.q/\∃vs w,v=.tuple #[vs,.int .i64 0]/\SlE H' vs w/\NewV H.length vs/\IsEnc g r b d w)\/(¬ (0<d.length/\d.length+r<f.q)/\v=.tuple #[.slice none 0 0,.int .i64 7]))):=by
 have h2:=qle (f:=f);have hd0:=hd;have hok:=vn hc;have hc0:=hc;obtain⟨c1,c2,c3⟩:=hc;obtain⟨ad,cd,rfl⟩:=hd.len;have hnr:((d.length:Int)+(r:Int))=((d.length+r:Nat):Int):=byO;unfold cdV;refine stG rfl rfl ?_;unfold PJ;simp only[kB,aC];refine aD ?_;refine aV ?_;refine aA (wR (ch:=FD.ch f) (sz:=f.q) (po:=f.poly) (r:=r) (b:=b) (jR (OkC.ok (f:=f))) (o6 (hd0.mono (Ext.app _ _))) (by rw[dW];omega)) ?_;rintro v H1 ⟨hx1,t,rfl,ht⟩;have g0:H1.get H.length=some _:=hx1.get bD;have hx1:=hx1.of_app;have htt:t=true:=ht.2 ⟨hok,ij d⟩;subst htt;(try simp only[aC]);refine ah ?_ ?_<;>intro h
 ·cases h
 clear h;(try simp only[aC]);by_cases hd1:0<d.length;rotate_left
 ·have hdz:(d.length:Int)=0:=byO
  refine bJ (t:=false) bD ki qV (fun h=>by cases h) (fun _=>?_);(try simp only[aC]);refine ah ?_ ?_<;>intro h
  ·clear h
   refine aD ?_;refine az ?_;exact⟨hx1,.inr ⟨byO,rfl⟩⟩
  ·cases h
 have hdz:¬ (d.length:Int)=0:=byO;refine bJ (t:=true) bD ki qV (fun _=>⟨_,bD,?_⟩) (fun h=>by cases h);refine aA (QR (ch:=FD.ch f) (sz:=f.q) (po:=f.poly) (r:=r) (b:=b) (n:=((d.length+r:Nat):Int))) ?_;rintro v H2 ⟨hx2,rfl⟩;have g0:=hx2.get g0;have hx2:=hx1.trans hx2;have hl2:=Heap.get_lt g0;by_cases hlen:d.length+r<f.q;rotate_left
 ·(try simp only[aC])
  refine ah ?_ ?_<;>intro h
  ·clear h
   refine aD ?_;refine az ?_;exact⟨hx2,.inr ⟨byO,rfl⟩⟩
  ·exfalso;simp at h;omega
 (try simp only[aC]);refine ah ?_ ?_<;>intro h
 ·exfalso;simp at h;omega
 clear h;(try simp only[aC]);refine aV ?_;refine aA (I3 (f:=f) byO hg hc0) ?_;rintro v H3 ⟨hx3,vg,rfl,hgen⟩;have g0:=hx3.get g0;have hx3:=hx2.trans hx3;have hl3:=Heap.get_lt g0;have hgl:=rX (fun i=>pw g (b+i)) r;generalize hn:d.length+r=n at *;refine aD ?_;refine ah ?_ ?_<;>intro h
 ·simp at h
 clear h;refine aD ?_;have hg0:H3.get H.length=some (cdC f r b):=g0;clear g0;generalize hG:H3++_=G at *;have g1:G.get H3.length=some (elL (tab n (fun _=>(0:El f)))):=by rw[<-hG,aH,eu]
 have hxG:Ext H3 G:=by rw[<-hG];exact Ext.app _ _
 clear hG;refine aT (fun i S H'=>Ext H3 H'/\H'.get H3.length=some (elL (tab n (fun k=>if n-i<=k then co d (n-1-k) else 0)))/\∃(z:Nat->Value),S=[z 0,.slice ad d.length cd,.pointer (some ⟨H.length,0,none⟩),.slice none 0 0,.int .i64 0,vg,z 6,.int .i64 (n:Nat),.slice (some ⟨H3.length,0,none⟩) n n,z 9,z 10,z 11,z 12,z 13,z 14,z 15,z 16,z 17,z 18,z 19,.slice ad d.length cd,.int .i64 (d.length:Nat),.int .i64 (i:Nat),z 23,z 24,z 25,z 26,z 27,z 28,z 29,z 30,z 31,z 32,z 33,z 34]) d.length ?_ ?_ ?_ ?_
 ·refine⟨hxG,?_,aJ rfl⟩
  rw[g1];refine congrArg (fun t=>some (elL t)) ?_;exact aS fun k _=>(if_neg byO).symm
 ·rintro i S H' hi ⟨hx,f1,z,rfl⟩
  exact⟨_,bD,by simp⟩
 ·clear g1 hxG
  rintro i S H4 hi ⟨hx4,f1,z,rfl⟩;obtain⟨bd,od,sp,cap,xs,e,gx,hat,hxl⟩:=ek hd0 hd1;cases e;have gx:=(hx3.trans hx4).get gx;have hati:=hat i hi;have hidx:((n:Int)-1-(i:Int))=((n-1-i:Nat):Int):=byO;have hset:(tab n (fun k=>if n-i<=k then co d (n-1-k) else 0)).set (n-1-i) (co d i)=tab n (fun k=>if n-(i+1)<=k then co d (n-1-k) else 0):=by
   rw[gO];refine aS fun k hk=>?_;by_cases e:k=n-1-i
   ·rw[if_pos e,if_pos byO,e,show n-1-(n-1-i)=i by omega]
   ·rw[if_neg e]
    by_cases h2:n-i<=k
    ·rw[if_pos h2,if_pos byO]
    ·rw[if_neg h2,if_neg byO]
  have hlen2:(tab n (fun k=>if n-i<=k then co d (n-1-k) else 0)).length<=n/\n<=(tab n (fun k=>if n-i<=k then co d (n-1-k) else 0)).length:=by rw[aK];omega
  generalize tab n (fun k=>if n-i<=k then co d (n-1-k) else 0)=T at *;have hl4:=Heap.get_lt f1;clear hat;refine aD ?_;exact⟨hx4.set (Nat.le_refl _),by rw[aE byO],aJ ncM⟩
 clear g1 hxG;rintro S H4 ⟨hx4,f1,z,rfl⟩;have hST:tab n (fun k=>if n-d.length<=k then co d (n-1-k) else 0)=tab n (fun k=>if r<=k/\k<n then co d (n-1-k) else 0):=by
  refine aS fun k hk=>?_;by_cases h:r<=k
  ·rw[if_pos byO,if_pos ⟨h,hk⟩]
  ·rw[if_neg byO,if_neg byO]
 rw[hST]at f1;clear hST;have hcoS:∀k,co (tab n (fun k=>if r<=k/\k<n then co d (n-1-k) else 0)) k=if r<=k/\k<n then co d (n-1-k) else 0:=by
  intro k;rw[cm];split
  ·rfl
  ·rw[if_neg byO]
 have hSl:=aK n (fun k=>if r<=k/\k<n then co d (n-1-k) else 0);generalize tab n (fun k=>if r<=k/\k<n then co d (n-1-k) else 0)=S0 at *;have hg4:=hx4.get hg0;have hl4:=(hx3.trans hx4).1;unfold cdC at hg4;(try simp only[aC]);refine aV ?_;refine aa (HD (Nat.le_refl _) (cK (sp:=none) f1 hSl) byO) ?_;rintro v H5 ⟨hx5,hs5⟩;have hg5:=hx5.get hg4;have hx5:=hx4.trans hx5;have hl5:=(hx3.trans hx5).1;have htl:=lh S0;clear hg4;(try simp only[aC]);refine aV ?_;refine aA (II byO hg hs5 (hgen.mono hx5) ⟨byO,?_⟩ ⟨by rw[hgl];omega,.inr ?_⟩ (by rw[hgl];omega)) ?_
 ·by_cases e:trim S0=[]
  ·left;rw[e];rfl
  ·right;rw[iA];exact oe S0 e
 ·rw[hgl,ux,Nat.add_sub_cancel,FE];exact j3
 rintro v H6 ⟨hx6,vt,vr,R,Q,rfl,hsR,hdiv⟩;rw[hgl,Nat.add_sub_cancel]at hdiv;have hg6:=hx6.get hg5;have hx6:=hx5.trans hx6;have hl6:=(hx3.trans hx6).1;have hRl:=Jz hdiv.top;have hsR0:=hsR;obtain⟨aR,cR,rfl⟩:=hsR.len;clear hg5;refine aD ?_;refine ah ?_ ?_<;>intro h
 ·simp at h
 clear h;refine aD ?_;generalize hG:H6++_=G at *;have g1:G.get H6.length=some (elL (List.replicate n (0:El f))):=by rw[<-hG,aH]
 have hxG:Ext H6 G:=by rw[<-hG];exact Ext.app _ _
 clear hG;have hl7:=Heap.get_lt g1;refine aV ?_;refine Bg byO g1 (by simp) (hd0.mono (hx3.trans (hx6.trans hxG))) (by simp;omega) ?_;intro w0;rw[pf d byO];generalize hG2:G.set H6.length _=G2;have g1:Heap.get G2 H6.length=some (elL (tab n (co d))):=by rw[<-hG2,aE byO]
 have hxG:Ext H6 G2:=by rw[<-hG2];exact hxG.set (Nat.le_refl _)
 clear hG2 hl7;refine aD ?_;refine aT (fun i S H'=>Ext H6 H'/\H'.get H6.length=some (elL (tab n (fun k=>if n-i<=k then-co R (n-1-k) else co d k)))/\∃(z:Nat->Value),S=[z 0,z 1,.pointer (some ⟨H.length,0,none⟩),.slice none 0 0,.int .i64 0,z 5,z 6,.int .i64 (n:Nat),z 8,z 9,z 10,z 11,.slice (some ⟨H6.length,0,none⟩) n n,z 13,z 14,z 15,z 16,z 17,z 18,z 19,z 20,z 21,z 22,z 23,z 24,z 25,z 26,z 27,.slice aR (trim R).length cR,.int .i64 ((trim R).length:Nat),.int .i64 (i:Nat),z 31,z 32,z 33,z 34]) (trim R).length ?_ ?_ ?_ ?_
 ·refine⟨hxG,?_,aJ rfl⟩
  rw[g1];refine congrArg (fun t=>some (elL t)) ?_;exact aS fun k hk=>(if_neg byO).symm
 ·rintro i S H' hi ⟨hx,f1,z,rfl⟩
  exact⟨_,bD,by simp⟩
 ·clear g1 hxG
  rintro i S H7 hi ⟨hx7,f1,z,rfl⟩;obtain⟨bd,od,sp,cap,xs,e,gx,hat,hxl⟩:=ek hsR0 byO;cases e;have gx:=hx7.get gx;have hati:=hat i hi;rw[iA]at hati;have hg7:=hx7.get hg6;have hidx:((n:Int)-1-(i:Int))=((n-1-i:Nat):Int):=byO;have hset:(tab n (fun k=>if n-i<=k then-co R (n-1-k) else co d k)).set (n-1-i) (- co R i)=tab n (fun k=>if n-(i+1)<=k then-co R (n-1-k) else co d k):=by
   rw[gO];refine aS fun k hk=>?_;by_cases e:k=n-1-i
   ·rw[if_pos e,if_pos byO,e,show n-1-(n-1-i)=i by omega]
   ·rw[if_neg e]
    by_cases h2:n-i<=k
    ·rw[if_pos h2,if_pos byO]
    ·rw[if_neg h2,if_neg byO]
  have hlen2:(tab n (fun k=>if n-i<=k then-co R (n-1-k) else co d k)).length<=n/\n<=(tab n (fun k=>if n-i<=k then-co R (n-1-k) else co d k)).length:=by rw[aK];omega
  generalize tab n (fun k=>if n-i<=k then-co R (n-1-k) else co d k)=T at *;have hneg:qQ f 0 (co R i).val=(- co R i).val:=by
   rw[vI (OkC.ok (f:=f)) byO (co R i).lt];show((0:El f)+- co R i).val=_;rw[zero_add]
  clear hat;refine aD ?_;refine aV ?_;refine aA (MT (f:=f) (OkC.ok (f:=f)) (a:=0) (b:=(co R i).val) byO (co R i).lt) ?_;rintro v H8 ⟨hx8,rfl⟩;rw[hneg];have f1:=hx8.get f1;have hx8:=hx7.trans hx8;have hl8:=Heap.get_lt f1;clear hneg;refine aD ?_;refine ah ?_ ?_<;>intro h
  ·simp at h
  clear h;refine aD ?_;exact⟨hx8.set (Nat.le_refl _),by rw[aE byO],aJ ncM⟩
 ·rintro S H7 ⟨hx7,f1,z,rfl⟩
  refine aD ?_;refine az ?_;refine⟨hx3.trans (hx6.trans hx7),.inl ⟨hd1,hlen,_,_,rfl,cK f1 (aK _ _),NewV.mk byO,?_⟩⟩;have hw:tab n (fun k=>if n-(trim R).length<=k then-co R (n-1-k) else co d k)=tab n (fun k=>if k<d.length then co d k else-co R (n-1-k)):=by
   refine aS fun k hk=>?_;by_cases h1:k<d.length
   ·rw[if_pos h1,if_neg byO]
   ·rw[if_neg h1]
    by_cases h3:n-(trim R).length<=k
    ·rw[if_pos h3]
    ·rw[if_neg h3,fY (l:=d) byO,<-iA R,fY (l:=trim R) byO,neg_zero]
  rw[hw];refine⟨by rw[aK];omega,fun i hi=>by rw[cm,if_pos byO,if_pos hi],?_⟩;refine IJ (n:=n) (data:=d) (S:=S0) (R:=R) (Q:=Q) (N:=(trim S0).length) byO hcoS (fun k=>?_) hdiv.top hdiv.qz (aK _ _) (fun i hi=>by rw[cm,if_pos byO,if_pos hi]) (fun k hk=>?_)
  ·rw[<-iA S0,hdiv.eq k,ux]
  ·rw[cm,if_pos byO,if_neg byO,show n-1-(n-1-k)=k by omega]
end
section
variable {f:FD}[OkC f]
open XRb
end
end Go.Proofs.YtmnlgdpdgjbfgaaGreat
