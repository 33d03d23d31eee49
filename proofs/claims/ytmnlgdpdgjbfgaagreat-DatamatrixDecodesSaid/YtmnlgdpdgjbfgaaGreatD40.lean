/- Lemmas. -/
import Derived.Test.YtmnlgdpdgjbfgaaGreatD9
import Derived.Test.YtmnlgdpdgjbfgaaGreatD39
set_option linter.all false
namespace Go.Proofs.YtmnlgdpdgjbfgaaGreat
open Go.Abs
def ry(s:Sz)(row col:Int):Bool:=if (decide (lc s col=0) || decide (lr s row=s.rr+1))=true then true else if lr s row=0 then decide ((lc s col).tmod 2=0) else decide ((lr s row).tmod 2=1)
theorem Bv{s:Sz}{row col:Int}(h:fk s row col=true):ry s row col=qg s row col:=by
 unfold ry qg;split
 ·rfl
 ·rename_i h1
  split
  ·rfl
  ·rename_i h2
   have h3:lc s col=s.rc+1:=by
    simp only[fk,ar₀,af₀]at h h1;omega
   rw[if_pos h3]
open XJWd
theorem Bw{lo:Nat}{H:Heap}{s:Sz}{row col:Int}(hs:SzOK s)(h0:0<=row)(h1:row<=200)(h2:0<=col)(h3:col<=200) :
  Ev cp lo 84 [s.val,.int .i64 col,.int .i64 row] H (fun v H'=>Ext H H'/\v=.tuple #[.bool (fk s row col),.bool (ry s row col)]):=by
 obtain⟨r0,r1,c0,c1,rr0,rr1,rc0,rc1,_⟩:=hs;have m1:=eM (a:=row) (m:=s.rr+2) byO byO;have m2:=eM (a:=col) (m:=s.rc+2) byO byO;have er:row.tmod (s.rr+2)=lr s row:=rfl;have ec:col.tmod (s.rc+2)=lc s col:=rfl;rw[er]at m1;rw[ec]at m2;refine stG rfl rfl ?_;unfold N1;simp only[kB,aB];refine aU ?_;refine cJ ?_ ?_<;>intro h
 ·have k1:=h
  clear h;refine aU ?_;refine dU ?_;refine⟨Ext.app _ _,?_⟩;simp[aM,fk,ry,k1]
 have k1:=h;clear h;(try simp only[aB]);refine cJ ?_ ?_<;>intro h
 ·have k2:lr s row=0:=by simpa using h
  clear h;refine aU ?_;refine dU ?_;refine⟨Ext.app _ _,?_⟩;simp only[k2]at k1;simp[aM,fk,ry,k1,k2]
 have k2:¬ lr s row=0:=by simpa using h
 clear h;refine aU ?_;refine dU ?_;refine⟨Ext.app _ _,?_⟩;simp[aM,fk,ry,k1,k2]
theorem KV{lo:Nat}{H:Heap}{s:Sz}{row col:Int}(hs:SzOK s)(hlo:lo<=H.length)(h0:0<=row)(h1:row<=200)(h2:0<=col)(h3:col<=200)(hB:fk s row col=false) :
  Ev cp lo 85 [s.val,.int .i64 col,.int .i64 row] H (fun v H'=>Ext H H'/\v=.int .i64 (eO s row col)):=by
 have hb:=kp hs;have hs':=hs;obtain⟨r0,r1,c0,c1,rr0,rr1,rc0,rc1,_⟩:=hs';have m1:=eM (a:=row) (m:=s.rr+2) byO byO;have m2:=eM (a:=col) (m:=s.rc+2) byO byO;have er:row.tmod (s.rr+2)=lr s row:=rfl;have ec:col.tmod (s.rc+2)=lc s col:=rfl;have hI:eO s row col=(row.tdiv (s.rr+2)*s.rr+lr s row-1)*ez s+(col.tdiv (s.rc+2)*s.rc+lc s col-1):=by
  unfold eO;rw[hB];simp only[ah₀,if_false];omega
 rw[er]at m1;rw[ec]at m2;refine stG rfl rfl ?_;unfold N3;simp only[kB,aB];refine aU ?_;refine dH ?_;refine aA (si (s:=s) hs) ?_;rintro v H3 ⟨hx3,rfl⟩;have g0:H3.get H.length=some _:=hx3.get jS;have hl3:=Heap.get_lt g0;have t1:=lp (a:=row) (b:=s.rr+2) byO byO;have t2:=lp (a:=col) (b:=s.rc+2) byO byO;have u1:=dF (a:=row.tdiv (s.rr+2)) (b:=s.rr) (A:=200) (B:=200) byO byO byO byO byO;have u2:=dF (a:=col.tdiv (s.rc+2)) (b:=s.rc) (A:=200) (B:=200) byO byO byO byO byO;have u3:=dF (a:=row.tdiv (s.rr+2)*s.rr+lr s row-1) (b:=ez s) (A:=50000) (B:=40000) byO byO byO byO byO;have hx0:=hx3.of_app;refine aU ?_;refine dU ?_;exact⟨hx0,by rw[hI];rfl⟩
set_option maxRecDepth 20000
def WB(w:Nat)(f:Nat->Bool)(xs:List Int):Prop:=xs.length=w/\∀j,j<w->∃x:Nat,x<256/\xs.getD j 0=x/\∀b,b<8->x.testBit (7-b)=f (8*j+b)
theorem WB.zero(w:Nat):WB w (fun _=>false) (List.replicate w 0):=by
 refine⟨by simp,fun j hj=>⟨0,byO,?_,fun b hb=>by simp⟩⟩;simp[au₀,hj]
theorem FR{x y:Nat}(hx:x<256)(hy:y<256)(h:∀b,b<8->x.testBit (7-b)=y.testBit (7-b)):x=y:=by
 apply Nat.eq_of_testBit_eq;intro i;by_cases hi:i<8
 ·have:=h (7-i) byO
  rwa [show 7-(7-i)=i by omega]at this
 ·rw[Nat.testBit_lt_two_pow (bc₀ hx (show 2^8<=2^i from Nat.pow_le_pow_right byO byO)),Nat.testBit_lt_two_pow (bc₀ hy (show 2^8<=2^i from Nat.pow_le_pow_right byO byO))]
theorem WB.uniq{w:Nat}{f:Nat->Bool}{xs ys:List Int}(h:WB w f xs)(k:WB w f ys):xs=ys:=by
 refine xm (h.1.trans k.1.symm) (fun i hi=>?_);obtain⟨x,x1,x2,x3⟩:=h.2 i (by rw[<-h.1];exact hi);obtain⟨y,y1,y2,y3⟩:=k.2 i (by rw[<-h.1];exact hi);rw[x2,y2,FR x1 y1 (fun b hb=>by rw[x3 b hb,y3 b hb])]
theorem WB.congr{w:Nat}{f g:Nat->Bool}{xs:List Int}(h:WB w f xs)(e:∀v,v<8*w->f v=g v):WB w g xs:=
 ⟨h.1,fun j hj=>by
  obtain⟨x,x1,x2,x3⟩:=h.2 j hj;exact⟨x,x1,x2,fun b hb=>by rw[x3 b hb,e _ byO]⟩⟩
theorem WB.at{w:Nat}{f:Nat->Bool}{xs:List Int}(h:WB w f xs){n:Nat}(hn:n<8*w):∃x:Nat,x<256/\xs.getD (n/8) 0=x/\x.testBit (7-n%8)=f n:=by
 obtain⟨x,x1,x2,x3⟩:=h.2 (n/8) byO;refine⟨x,x1,x2,?_⟩;rw[x3 _ byO,show 8*(n/8)+n%8=n by omega]
theorem WB.step{w:Nat}{f:Nat->Bool}{xs:List Int}(h:WB w f xs){n:Nat}(hn:n<8*w){y:Int}(hy:∀x:Nat,x<256->xs.getD (n/8) 0=x->x.testBit (7-n%8)=f n->y=(x ||| 2^(7-n%8):Nat)) :
  WB w (fun v=>f v || decide (v=n)) (xs.set (n/8) y):=by
 refine⟨by simp[h.1],fun j hj=>?_⟩;obtain⟨x,x1,x2,x3⟩:=h.2 j hj;by_cases e:n/8=j
 ·subst e
  have hx:=x3 (n%8) byO;rw[show 8*(n/8)+n%8=n by omega]at hx;refine⟨x ||| 2^(7-n%8),Nat.or_lt_two_pow (n:=8) x1 (Nat.pow_lt_pow_right byO byO),?_,fun b hb=>?_⟩
  ·have:n/8<xs.length:=by rw[h.1];exact hj
   rw[au₀,List.getElem?_set_self this];exact hy x x1 x2 hx
  ·rw[Nat.testBit_or,x3 b hb,Nat.testBit_two_pow]
   congr 1;rw[Bool.eq_iff_iff];simp only[af₀];omega
 ·refine⟨x,x1,?_,fun b hb=>?_⟩
  ·rw[au₀,List.getElem?_set_ne e,<-au₀];exact x2
  ·rw[x3 b hb]
   have:decide (8*j+b=n)=false:=by simp;omega
   show _=(f (8*j+b) || decide (8*j+b=n));rw[this,Bool.or_false]
def KF:Bool:=(List.range 256).all fun x=>(List.range 8).all fun b=>x.testBit (7-b) || x ||| 2^(7-b)==x+2^(7-b)
theorem AM:KF=true:=by kernel_rfl
theorem MD{x b:Nat}(hx:x<256)(hb:b<8)(h:x.testBit (7-b)=false):x ||| 2^(7-b)=x+2^(7-b):=by
 have:=List.all_eq_true.1 (List.all_eq_true.1 AM x (by simpa using hx)) b (by simpa using hb);simpa[h]using this
theorem Gg{x:Nat}{n:Nat}(hx:x<256):IntKind.i64.wrap ((BitVec.ofInt IntKind.i64.bits (x:Int) ||| BitVec.ofInt IntKind.i64.bits (IntKind.i64.wrap (1*2^(min (7-(n:Int).tmod 8).toNat IntKind.i64.bits)))).toNat:Int)=(x ||| 2^(7-n%8):Nat):=by
 have e:(7-(n:Int).tmod 8).toNat=7-n%8:=by
  rw[Int.tmod_eq_emod_of_nonneg byO];omega
 have hb:7-n%8<8:=byO;rw[e,show IntKind.i64.bits=64 from rfl,Nat.min_eq_left byO];have hp:(2:Nat)^(7-n%8)<2^8:=Nat.pow_lt_pow_right byO byO;have hc:((2:Int)^(7-n%8))=((2^(7-n%8):Nat):Int):=by simp
 rw[hc];generalize 2^(7-n%8)=p at *;rw[Int.one_mul,eX (a:=(p:Int)) byO byO,BitVec.ofInt_natCast,BitVec.ofInt_natCast,BitVec.toNat_or,BitVec.toNat_ofNat,BitVec.toNat_ofNat,Nat.mod_eq_of_lt byO,Nat.mod_eq_of_lt byO];have:x ||| p<2^8:=Nat.or_lt_two_pow hx hp;rw[eX byO byO]
theorem FI{x:Nat}{n:Nat}(hx:x<256)(h:x.testBit (7-n%8)=false):IntKind.i64.wrap ((x:Int)+IntKind.i64.wrap (1*2^(min (7-(n:Int).tmod 8).toNat IntKind.i64.bits)))=(x ||| 2^(7-n%8):Nat):=by
 have e:(7-(n:Int).tmod 8).toNat=7-n%8:=by
  rw[Int.tmod_eq_emod_of_nonneg byO];omega
 have hb:7-n%8<8:=byO;rw[e,show IntKind.i64.bits=64 from rfl,Nat.min_eq_left byO];have hp:(2:Nat)^(7-n%8)<2^8:=Nat.pow_lt_pow_right byO byO;have hc:((2:Int)^(7-n%8))=((2^(7-n%8):Nat):Int):=by simp
 have ho:=MD hx (show n%8<8 by omega) h;rw[hc];generalize 2^(7-n%8)=p at *;rw[Int.one_mul,eX (a:=(p:Int)) byO byO,eX byO byO,ho];simp
def exP(s:Sz)(o:List Int)(dk:List Bool)(k:Nat):Option Nat:=
 if fk s ((k:Int).tdiv s.c) ((k:Int).tmod s.c)=true then none
 else if 0<=o.getD (eO s ((k:Int).tdiv s.c) ((k:Int).tmod s.c)).toNat 0/\dk.getD k false=true then some (o.getD (eO s ((k:Int).tdiv s.c) ((k:Int).tmod s.c)).toNat 0).toNat else none
def seen(P:Nat->Option Nat)(i v:Nat):Bool:=(List.range i).any fun k=>decide (P k=some v)
theorem gG{P:Nat->Option Nat}{i v:Nat}:seen P (i+1) v=(seen P i v || decide (P i=some v)):=by
 simp[seen,List.range_succ]
theorem BV{P:Nat->Option Nat}{i v:Nat}:seen P i v=true↔∃k,k<i/\P k=some v:=by
 simp[seen]
def fH(s:Sz)(dk:List Bool)(i:Nat):Bool:=(List.range i).any fun k=>fk s ((k:Int).tdiv s.c) ((k:Int).tmod s.c)&&(dk.getD k false != qg s ((k:Int).tdiv s.c) ((k:Int).tmod s.c))
theorem oY{s:Sz}{dk:List Bool}{i:Nat}:fH s dk (i+1)=(fH s dk i || (fk s ((i:Int).tdiv s.c) ((i:Int).tmod s.c)&&(dk.getD i false != qg s ((i:Int).tdiv s.c) ((i:Int).tmod s.c)))):=by
 simp[fH,List.range_succ]
theorem oX{s:Sz}{dk:List Bool}{i n:Nat}(h:fH s dk i=true)(hi:i<=n):fH s dk n=true:=by
 unfold fH at h ⊢;obtain⟨k,h1,h2⟩:=List.any_eq_true.1 h;exact List.any_eq_true.2 ⟨k,by simp at h1 ⊢;omega,h2⟩
theorem wQ{h rr K x y:Int}(hh:h=rr+2)(hrr:0<rr)(hx:0<=x)(hy:0<=y)(x0:¬ x.tmod h=0)(x1:¬ x.tmod h=rr+1)(y0:¬ y.tmod h=0)(y1:¬ y.tmod h=rr+1)(e:x.tdiv h*rr+x.tmod h=y.tdiv h*rr+y.tmod h):x=y:=by
 rw[Int.tdiv_eq_ediv_of_nonneg hx,Int.tmod_eq_emod_of_nonneg hx]at *;rw[Int.tdiv_eq_ediv_of_nonneg hy,Int.tmod_eq_emod_of_nonneg hy]at *;have ex:=Int.mul_ediv_add_emod x h;have ey:=Int.mul_ediv_add_emod y h;have a0:=Int.emod_nonneg x (show h≠0 by omega);have a1:=Int.emod_lt_of_pos x (show 0<h by omega);have b0:=Int.emod_nonneg y (show h≠0 by omega);have b1:=Int.emod_lt_of_pos y (show 0<h by omega);generalize x/h=p at *;generalize y/h=q at *;generalize x%h=a at *;generalize y%h=b at *;have key:∀p q:Int,p<q->p*rr+rr<=q*rr:=by
  intro p q hpq;have:=Int.mul_le_mul_of_nonneg_right (show p+1<=q by omega) (show 0<=rr by omega);rw[Int.add_mul]at this;omega
 have hpq:p=q:=by
  rcases Int.lt_trichotomy p q with h1|h1|h1
  ·have:=key _ _ h1;omega
  ·exact h1
  ·have:=key _ _ h1;omega
 subst hpq;have:a=b:=byO;subst this;omega
theorem HV{C a b c d:Int}(hb0:0<=b)(hb:b<C)(hd0:0<=d)(hd:d<C)(e:a*C+b=c*C+d):a=c/\b=d:=by
 have key:∀p q:Int,p<q->p*C+C<=q*C:=by
  intro p q hpq;have:=Int.mul_le_mul_of_nonneg_right (show p+1<=q by omega) (show 0<=C by omega);rw[Int.add_mul]at this;omega
 have:a=c:=by
  rcases Int.lt_trichotomy a c with h1|h1|h1
  ·have:=key _ _ h1;omega
  ·exact h1
  ·have:=key _ _ h1;omega
 subst this;exact⟨rfl,byO⟩
theorem zM{s:Sz}{row col:Int}(hB:fk s row col=false):eO s row col=(row.tdiv (s.rr+2)*s.rr+lr s row-1)*ez s+(col.tdiv (s.rc+2)*s.rc+lc s col-1):=by
 unfold eO;rw[hB];simp only[ah₀,if_false];omega
theorem l9{s:Sz}(hs:SzOK s){i:Nat}(hi:(i:Int)<s.r*s.c):0<=(i:Int).tdiv s.c/\(i:Int).tdiv s.c<s.r/\0<=(i:Int).tmod s.c/\(i:Int).tmod s.c<s.c:=by
 obtain⟨r0,r1,c0,c1,rr0,rr1,rc0,rc1,_⟩:=hs;have tm:=eM (a:=i) (m:=s.c) byO byO;rw[Int.tdiv_eq_ediv_of_nonneg byO];exact⟨Int.ediv_nonneg byO byO,Int.ediv_lt_of_lt_mul byO hi,tm⟩
theorem CM{s:Sz}(hs:SzOK s)(hf:SzFit s){row col:Int}(h0:0<=col)(h1:col<s.c)(hB:fk s row col=false):0<=col.tdiv (s.rc+2)*s.rc+lc s col-1/\col.tdiv (s.rc+2)*s.rc+lc s col-1<ez s:=by
 have hmb:=kp hs;obtain⟨r0,r1,c0,c1,rr0,rr1,rc0,rc1,_⟩:=hs;simp only[fk,Bool.or_eq_false_iff,ai₀]at hB;obtain⟨⟨⟨b1,b2⟩,b3⟩,b4⟩:=hB;exact xi (R:=s.c) (h:=s.rc+2) (rr:=s.rc) (K:=s.c.tdiv (s.rc+2)) (x:=col) hf.hc rfl byO byO byO byO b1 b4
theorem GD{s:Sz}(hs:SzOK s)(hf:SzFit s){i j:Nat}(hi:(i:Int)<s.r*s.c)(hj:(j:Int)<s.r*s.c)(bi:fk s ((i:Int).tdiv s.c) ((i:Int).tmod s.c)=false)(bj:fk s ((j:Int).tdiv s.c) ((j:Int).tmod s.c)=false)
  (e:eO s ((i:Int).tdiv s.c) ((i:Int).tmod s.c)=eO s ((j:Int).tdiv s.c) ((j:Int).tmod s.c)):i=j:=by
 have di:=l9 hs hi;have dj:=l9 hs hj;rw[zM bi,zM bj]at e;have ci:=CM hs hf di.2.2.1 di.2.2.2 bi;have cj:=CM hs hf dj.2.2.1 dj.2.2.2 bj;obtain⟨e1,e2⟩:=HV ci.1 ci.2 cj.1 cj.2 e;obtain⟨r0,r1,c0,c1,rr0,rr1,rc0,rc1,_⟩:=hs;simp only[fk,Bool.or_eq_false_iff,ai₀]at bi bj;obtain⟨⟨⟨a1,a2⟩,a3⟩,a4⟩:=bi;obtain⟨⟨⟨b1,b2⟩,b3⟩,b4⟩:=bj;have hrow:=wQ (K:=0) rfl byO di.1 dj.1 a3 a2 b3 b2 (show((i:Int).tdiv s.c).tdiv (s.rr+2)*s.rr+lr s ((i:Int).tdiv s.c)=((j:Int).tdiv s.c).tdiv (s.rr+2)*s.rr+lr s ((j:Int).tdiv s.c) by omega);have hcol:=wQ (K:=0) rfl byO di.2.2.1 dj.2.2.1 a1 a4 b1 b4 (show((i:Int).tmod s.c).tdiv (s.rc+2)*s.rc+lc s ((i:Int).tmod s.c)=((j:Int).tmod s.c).tdiv (s.rc+2)*s.rc+lc s ((j:Int).tmod s.c) by omega);rw[Int.tdiv_eq_ediv_of_nonneg byO,Int.tdiv_eq_ediv_of_nonneg byO]at hrow;rw[Int.tmod_eq_emod_of_nonneg byO,Int.tmod_eq_emod_of_nonneg byO]at hcol;have ei:=Int.mul_ediv_add_emod i s.c;have ej:=Int.mul_ediv_add_emod j s.c;rw[hrow,hcol]at ei;omega
theorem yq{s:Sz}{gf:G}(hs:s ∈ szs)(hso:SizeOrd s gf){dk:List Bool}{i j v:Nat}(hi:(i:Int)<s.r*s.c)(hj:(j:Int)<s.r*s.c)(ei:exP s gf.cells dk i=some v)(ej:exP s gf.cells dk j=some v):i=j:=by
 unfold exP at ei ej;split at ei
 ·simp at ei
 ·rename_i bi
  split at ej
  ·simp at ej
  ·rename_i bj
   simp only[Bool.not_eq_true]at bi bj;split at ei<;>try (simp at ei;done)
   split at ej<;>try (simp at ej;done)
   rename_i ci cj;have li:=hso.loc i hi bi;have lj:=hso.loc j hj bj;refine GD (uk s hs) (AA s hs) hi hj bi bj ?_;generalize eO s ((i:Int).tdiv s.c) ((i:Int).tmod s.c)=a at *;generalize eO s ((j:Int).tdiv s.c) ((j:Int).tmod s.c)=b at *;have hol:=hso.od.len;have ga:gf.cells.getD a.toNat 0=gf.cells.getD a.toNat (-1):=by
    simp[au₀,bb₀ (show a.toNat<gf.cells.length by omega)]
   have gb:gf.cells.getD b.toNat 0=gf.cells.getD b.toNat (-1):=by
    simp[au₀,bb₀ (show b.toNat<gf.cells.length by omega)]
   rw[ga]at ci ei;rw[gb]at cj ej;have:=hso.od.inj a.toNat b.toNat byO byO ci.1 (by have:=ci.1;have:=cj.1;simp only[ab₀]at ei ej;omega);omega
end Go.Proofs.YtmnlgdpdgjbfgaaGreat
namespace Go.Proofs.YtmnlgdpdgjbfgaaGreat
open Go.Abs
variable{H:Heap}{lo:Nat}{i:Nat}
def gJ(w h:Int)(n:Nat):Bool:=((((decide (1<=w)&&decide (w<=4096))&&decide (1<=h))&&decide (h<=4096))&&decide (IntKind.i64.wrap (w*h)<=4194304))&&decide ((n:Int)=IntKind.i64.wrap (w*h))
theorem rU{w h:Int}{n:Nat}(hv:gJ w h n=true):(n:Int)=w*h/\1<=w/\w<=4096/\1<=h/\h<=4096:=by
 simp only[gJ,ac₀,af₀]at hv;obtain⟨⟨⟨⟨⟨a,b⟩,c⟩,d⟩,e⟩,f⟩:=hv;have hm:=dF (a:=w) (b:=h) (A:=4096) (B:=4096) byO byO byO byO byO;rw[eX byO byO]at f;exact⟨f,a,b,c,d⟩
namespace XJWp
def xtr:=zzi @Sz.cells.eq_1 (zzi @Sz.val.eq_1 @Int.cast_ofNat_Int)
end XJWp
open XJWp
theorem HW{w h:Int}{ad:Option Addr}{n c:Nat}:Ev cp lo 86 [.agg #[.int .i64 w,.int .i64 h,.slice ad n c]] H (fun v H'=>Ext H H'/\v=.bool (gJ w h n)):=by
 refine stG rfl rfl ?_;unfold N4;simp only[kB,aB];refine aU ?_;refine dU ?_;exact⟨Ext.app _ _,rfl⟩
theorem HY{w h:Int}{ad:Option Addr}{n c:Nat}:Ev cp lo 90 [.agg #[.int .i64 w,.int .i64 h,.slice ad n c]] H (fun v H'=>Ext H H'/\v=.bool (gJ w h n)):=by
 refine stG rfl rfl ?_;unfold N8;simp only[kB,aB];refine aU ?_;refine dU ?_;exact⟨Ext.app _ _,rfl⟩
def ma(w h:Int)(s:Sz):Bool:=decide (s.r=h)&&decide (s.c=w)
def fK(w h:Int):Option Sz:=szs.find? (ma w h)
theorem BZ(h:i<30):szs=szs.take i++bZ i::szs.drop (i+1):=by
 have e:szs[i]'(by rw[gP];exact h)=bZ i:=by
  unfold bZ;rw[au₀,bb₀ (by rw[gP];exact h)];rfl
 rw[<-e,<-List.drop_eq_getElem_cons,List.take_append_drop]
theorem Fb{w h:Int}(hi:i<30)(hno:(szs.take i).any (ma w h)=false)(hy:ma w h (bZ i)=true):fK w h=some (bZ i):=by
 unfold fK;rw[BZ hi,List.find?_append];have:(szs.take i).find? (ma w h)=none:=by
  rw[List.find?_eq_none];intro s hs;have:=List.any_eq_false.1 hno s hs;simpa using this
 rw[this];simp[hy]
theorem sP{w h:Int}(hno:szs.any (ma w h)=false):fK w h=none:=by
 unfold fK;rw[List.find?_eq_none];intro s hs;simpa using List.any_eq_false.1 hno s hs
theorem lQ{w h:Int}{s:Sz}(hf:fK w h=some s):s ∈ szs/\s.r=h/\s.c=w:=by
 have h1:=List.mem_of_find?_eq_some hf;have h2:=List.find?_some hf;simp only[ma,ac₀,af₀]at h2;exact⟨h1,h2⟩
theorem mu{p:Sz->Bool}(h:i<30):(szs.take (i+1)).any p=((szs.take i).any p || p (bZ i)):=by
 rw[iG h,List.any_append];simp
theorem K0{w h:Int}{v:Value}{s:Sz}{p:Nat}(g:H.get p=some [.int .i64 w,.int .i64 h,v]):Ev cp lo 88 [s.val,.pointer (some ⟨p,0,none⟩)] H (fun v H'=>Ext H H'/\v=.bool (ma w h s)):=by
 have hp:=Heap.get_lt g;refine stG rfl rfl ?_;unfold N6;simp only[kB,aB];refine aU ?_;refine dU ?_;exact⟨Ext.app _ _,rfl⟩
theorem Fu{w h:Int}{v:Value}{p j:Nat}(g:H.get p=some [.int .i64 w,.int .i64 h,v])(hg:H.get j=some szCells) :
  Ev cp lo 87 [.slice (some ⟨j,0,none⟩) 30 30,.func (.func 88) #[] #[.pointer (some ⟨p,0,none⟩)]] H (fun v H'=>Ext H H'/\((fK w h=none/\v=.int .i64 (-1))\/∃i:Nat,i<30/\v=.int .i64 i/\fK w h=some (bZ i))):=by
 refine stG rfl rfl ?_;unfold N5;simp only[kB,aB];refine aU ?_;refine aa (fun i S H'=>Ext H H'/\(szs.take i).any (ma w h)=false/\∃z2 z3 z6,S=[.slice (some ⟨j,0,none⟩) 30 30,.func (.func 88) #[] #[.pointer (some ⟨p,0,none⟩)],z2,z3,.int .i64 30,.int .i64 (i:Nat),z6]) 30 ?_ ?_ ?_ ?_
 ·exact⟨Ext.refl _,rfl,_,_,_,rfl⟩
 ·rintro i S H' hi ⟨hx,-,z2,z3,z6,rfl⟩
  exact⟨_,jS,by simp;try omega⟩
 ·rintro i S H1 hi ⟨hx,hno,z2,z3,z6,rfl⟩
  have g:=hx.get g;have hg:=hx.get hg;have hrow:=gH hi;have hlen:=gY;have hsucc:=mu (p:=ma w h) hi;rw[hno,Bool.false_or]at hsucc;refine aU ?_;refine dH ?_;refine aA (K0 (s:=bZ i) g) ?_;rintro v1 H2 ⟨hx2,rfl⟩;clear hrow hlen;(try simp only[aB]);refine cJ ?_ ?_<;>intro h
  ·have hf:=Fb hi hno h
   clear hsucc;refine aU ?_;refine dU ?_;exact⟨hx.trans hx2,.inr ⟨i,hi,rfl,hf⟩⟩
  ·rw[h]at hsucc
   clear h;refine aU ?_;exact⟨hx.trans hx2,hsucc,_,_,_,ncM⟩
 ·rintro S H1 ⟨hx,hno,z2,z3,z6,rfl⟩
  have hf:=sP hno;refine aU ?_;refine dU ?_;exact⟨hx,.inl ⟨hf,rfl⟩⟩
def pX(w h:Int)(dk:List Bool)(H':Heap)(r:Value):Prop:=
 (gJ w h dk.length=false/\r=.tuple #[.slice none 0 0,Sz.zero.val,.int .i64 1]) \/
 (gJ w h dk.length=true/\fK w h=none/\r=.tuple #[.slice none 0 0,Sz.zero.val,.int .i64 23]) \/
 (gJ w h dk.length=true/\∃s,fK w h=some s/\fH s dk dk.length=true/\r=.tuple #[.slice none 0 0,Sz.zero.val,.int .i64 18]) \/
 (gJ w h dk.length=true/\∃s gf v xs,fK w h=some s/\SizeOrd s gf/\fH s dk dk.length=false/\WB (s.d+s.k).toNat (seen (exP s gf.cells dk) dk.length) xs/\r=.tuple #[v,s.val,.int .i64 0]/\WordsX H' v xs)
set_option maxHeartbeats 8000000 in
theorem A7{vd:Value}{dk:List Bool}{w u:Int}(hlo:lo<=H.length)(hd:SlB H vd dk):Ev cp lo 45 [.agg #[.int .i64 w,.int .i64 u,vd]] H (fun r H'=>Ext H H'/\pX w u dk H' r):=by
 have hd0:=hd;obtain⟨ad,cd,rfl⟩:=hd.len;refine stG rfl rfl ?_;unfold NB;simp only[kB,aB];refine aU ?_;refine dH ?_;refine aA HW ?_;rintro v H1 ⟨hx1,rfl⟩;have g0:H1.get H.length=some _:=hx1.get jS;have g1:H1.get (H.length+1)=some _:=hx1.get jS;have hl1:=Heap.get_lt g1;have hx1:=hx1.of_app;(try simp only[aB]);refine cJ ?_ ?_<;>intro h
 ·have hv:gJ w u dk.length=false:=by simpa using h
  clear h;refine aU ?_;refine dU ?_;exact⟨hx1.set byO,.inl ⟨hv,rfl⟩⟩
 have hv:gJ w u dk.length=true:=by simpa using h
 clear h;(try simp only[aB]);refine dH ?_;refine aA (zq byO) ?_;rintro v H2 ⟨j,hj,rfl,hg,hx2⟩;have g0:=(hx2).get g0;have g1:=(hx2).get g1;have hx2:=hx1.trans hx2;refine aU ?_;refine dH ?_;refine aA (Fu g0 hg) ?_;rintro v H3 ⟨hx3,hc⟩;have g0:=(hx3).get g0;have g1:=(hx3).get g1;have hg:=(hx3).get hg;have hx3:=hx2.trans hx3;have hl3:=Heap.get_lt g1;have hjl:=Heap.get_lt hg;clear hx1 hx2;rcases hc with ⟨hf,rfl⟩|⟨i0,hi0,rfl,hf⟩
 ·refine aU ?_
  refine cJ ?_ ?_<;>intro h
  ·clear h
   refine aU ?_;refine dU ?_;exact⟨hx3.set byO,.inr (.inl ⟨hv,hf,rfl⟩)⟩
  ·simp at h
 have hrow:=gH hi0;have hlen:=gY;generalize bZ i0=s at *;obtain⟨hsm,hh,hw⟩:=lQ hf;subst hh;subst hw;have hok:=uk s hsm;have hok':=hok;obtain⟨r0,r1,c0,c1,rr0,rr1,rc0,rc1,d0,d1,k0,k1⟩:=hok';obtain⟨gf,hso⟩:=yS s hsm;obtain⟨hdn,-⟩:=rU hv;rw[Int.mul_comm]at hdn;have hdn':(dk.length:Int)<=s.r*s.c/\s.r*s.c<=dk.length:=byO;clear hdn;refine aU ?_;refine cJ ?_ ?_<;>intro h
 ·simp at h;omega
 clear h;refine aU ?_;have g7:Heap.get (H3++[some s.cells]) H3.length=some s.cells:=aK;refine dH ?_;refine aA (sg (s:=s) hok) ?_;rintro v H4 ⟨hx4,rfl⟩;have g7:=hx4.get g7;have hx4:=hx4.of_app;have g0:=(hx4).get g0;have g1:=(hx4).get g1;have hx4:=hx3.trans hx4;have hl7:=Heap.get_lt g7;generalize H3.length=p7 at *;clear hrow hg;(try simp only[aB]);refine dH ?_;refine aA (Gk hso.dim (by have:=hx4.1;omega) hso.ord) ?_;rintro v H5 ⟨hx5,q,hq,rfl,hgq⟩;have g0:=(hx5).get g0;have g1:=(hx5).get g1;have g7:=(hx5).get g7;have hx5:=hx4.trans hx5;have hql:=Heap.get_lt hgq;have hl5:=Heap.get_lt g7;have hgl:gf.cells.length<=(gh s*ez s).toNat/\(gh s*ez s).toNat<=gf.cells.length:=by rw[hso.od.len];omega
 have hmb:=kp hok;have hrc0:0<=gh s*ez s:=Int.mul_nonneg byO byO;have hm:=dF (a:=s.r) (b:=s.c) (A:=200) (B:=200) byO byO byO byO byO;obtain⟨W,hW⟩:∃W:Nat,(W:Int)=s.d+s.k:=⟨(s.d+s.k).toNat,byO⟩;have hWn:(s.d+s.k).toNat=W:=byO;have hdpos:0<dk.length:=by
  have:0<s.r*s.c:=Int.mul_pos byO byO;omega
 obtain⟨bd,od,sp,cap,xs0,ed,gd,hat,hxl⟩:=hd0.els false hdpos;cases ed;have gd:=hx5.get gd;have hbl:=Heap.get_lt gd;have hod:=hso.od;rw[hWn]at hod;refine aU ?_;generalize hM:H5.length=M at *;refine aa (fun i S H'=>Ext H H'/\M<H'.length/\H'.get H.length=some [.int .i64 s.c,.int .i64 s.r,.slice (some ⟨bd,od,sp⟩) dk.length cd]/\H'.get (H.length+1)=some Sz.zero.cells/\H'.get p7=some s.cells/\H'.get q=some (bN gf.cells)/\H'.get bd=some xs0/\fH s dk i=false/\∃xs,H'.get M=some (bN xs)/\WB W (seen (exP s gf.cells dk) i) xs/\∃z0 z2 z4 z5 z6 z10 z11 z12 z13 z14 z15 z16 z17 z18 z19 z20 z24,S=[z0,.pointer (some ⟨H.length,0,none⟩),z2,.pointer (some ⟨H.length+1,0,none⟩),z4,z5,z6,.pointer (some ⟨p7,0,none⟩),.slice (some ⟨q,0,none⟩) gf.cells.length gf.cells.length,.slice (some ⟨M,0,none⟩) W W,z10,z11,z12,z13,z14,z15,z16,z17,z18,z19,z20,.slice (some ⟨bd,od,sp⟩) dk.length cd,.int .i64 (dk.length:Nat),.int .i64 (i:Nat),z24]) dk.length ?_ ?_ ?_ ?_
 ·refine⟨hx5.trans (Ext.app _ _),by simp[hM],by simp(disch:=try exact dO)only[evB,xtr, *],by simp(disch:=try exact dO)only[evB,xtr, *];rfl,by simp(disch:=try exact dO)only[evB,xtr, *],by simp(disch:=try exact dO)only[evB,xtr, *],by simp(disch:=try exact dO)only[evB,xtr, *],rfl,List.replicate W 0,by rw[<-hM,aK],(WB.zero W).congr (fun v _=>rfl),_,_,_,_,_,_,_,_,_,_,_,_,_,_,_,_,_,rfl⟩
 ·rintro i S H' hi ⟨hx,hlM,f0,f1,f7,fq,fd,hbp,xs,fm,hwb,z0,z2,z4,z5,z6,z10,z11,z12,z13,z14,z15,z16,z17,z18,z19,z20,z24,rfl⟩
  exact⟨_,jS,by simp⟩
 ·rintro i S H6 hi ⟨hx6,hlM,f0,f1,f7,fq,fd,hbp,xs,fm,hwb,z0,z2,z4,z5,z6,z10,z11,z12,z13,z14,z15,z16,z17,z18,z19,z20,z24,rfl⟩
  have hat:=hat i hi;have hiN:(i:Int)<s.r*s.c:=byO;have hrc:=l9 hok hiN;have hloc:=hso.loc i hiN;have hinj:=fun k v=>yq (gf:=gf) hsm hso (dk:=dk) (i:=i) (j:=k) (v:=v) hiN;have hsucc:=oY (s:=s) (dk:=dk) (i:=i);rw[hbp,Bool.false_or]at hsucc;have hex:=exP.eq_1 s gf.cells dk i;have hxl2:=hwb.1;generalize hrow:(i:Int).tdiv s.c=row at *;generalize hcol:(i:Int).tmod s.c=col at *;generalize hdi:dk.getD i false=di at *;have hl6:=hx6.1;clear g0 g1 g7 hgq gd;refine aU ?_;refine dH ?_;refine aA (DY (s:=s) (row:=row) (col:=col) hok byO byO byO byO byO) ?_;rintro v H7 ⟨hx7,rfl⟩;have f0:=(hx7).get f0;have f1:=(hx7).get f1;have f7:=(hx7).get f7;have fq:=(hx7).get fq;have fd:=(hx7).get fd;have fm:=(hx7).get fm;have hlM:=bc₀ hlM hx7.1;have hx7:=hx6.trans hx7;have hl7:=hx7.1;have hfd:=Heap.get_lt fd;clear hat hrow hcol hdi hxl2;refine aU ?_;refine cJ ?_ ?_<;>intro h
  ·have hB:=h
   clear h;rw[hB,Bool.true_and]at hsucc;rw[if_pos hB]at hex;(try simp only[aB]);refine cJ ?_ ?_<;>intro h
   ·have hbad:fH s dk dk.length=true:=oX (i:=i+1) (by rw[hsucc];simpa using h) byO
    clear h hsucc;refine aU ?_;refine dU ?_;exact⟨(hx7.set byO).trans (Ext.app _ _),.inr (.inr (.inl ⟨hv,s,hf,hbad,rfl⟩))⟩
   ·have hgood:fH s dk (i+1)=false:=by rw[hsucc];simpa using h
    clear h hsucc;refine aU ?_;exact⟨hx7.trans (Ext.app _ _),by simp;omega,by simp(disch:=try exact dO)only[evB,xtr, *],by simp(disch:=try exact dO)only[evB,xtr, *],by simp(disch:=try exact dO)only[evB,xtr, *],by simp(disch:=try exact dO)only[evB,xtr, *],by simp(disch:=try exact dO)only[evB,xtr, *],hgood,xs,by simp(disch:=try exact dO)only[evB,xtr, *],hwb.congr (fun v _=>by rw[gG,hex];simp),_,_,_,_,_,_,_,_,_,_,_,_,_,_,_,_,_,ncM⟩
  have hB:=h;clear h;have hloc:=hloc hB;rw[hB,Bool.false_and]at hsucc;have hnb:¬ fk s row col=true:=by rw[hB];simp
  rw[if_neg hnb]at hex;have hltI:(eO s row col).toNat<(gh s*ez s).toNat:=byO;have hlt8:=hod.lt (eO s row col).toNat hltI;have hgd:gf.cells.getD (eO s row col).toNat 0=gf.cells.getD (eO s row col).toNat (-1):=by
   simp[au₀,bb₀ (show(eO s row col).toNat<gf.cells.length by omega)]
  rw[<-hgd]at hlt8;clear hgd hnb;have hnI:(eO s row col).toNat<gf.cells.length:=byO;have hlocb:=dF (a:=gh s) (b:=ez s) (A:=40000) (B:=40000) byO byO byO byO byO;refine aU ?_;generalize hn:gf.cells.getD (eO s row col).toNat 0=n at *;refine cJ ?_ ?_<;>intro h
  ·have hc:0<=n/\di=true:=by simpa using h
   clear h;rw[if_pos hc]at hex;obtain⟨hn0,rfl⟩:=hc;obtain⟨m,rfl⟩:=Int.eq_ofNat_of_zero_le hn0;simp only[Int.toNat_natCast]at hex;have hm8:m<8*W:=byO;have hdiv:(m:Int).tdiv 8=((m/8:Nat):Int):=by rw[Int.tdiv_eq_ediv_of_nonneg byO];rfl
   have m8:=eM (a:=(m:Int)) (m:=8) hn0 byO;have hxl:=hwb.1;have hxl2:xs.length<=W/\W<=xs.length:=byO;clear hxl;obtain⟨x,hx256,hxat,hxbit⟩:=hwb.at hm8;have hstep:=hwb.step hm8 (y:=IntKind.i64.wrap ((BitVec.ofInt IntKind.i64.bits (xs.getD (m/8) 0) ||| BitVec.ofInt IntKind.i64.bits (IntKind.i64.wrap (1*2^(min (7-(m:Int).tmod 8).toNat IntKind.i64.bits)))).toNat:Int)) (fun x' h1 h2 _=>by rw[h2];exact Gg h1);have hwb2:=hstep.congr (g:=seen (exP s gf.cells dk) (i+1)) (fun v _=>by rw[gG,hex];congr 1;rw[Bool.eq_iff_iff];simp[eq_comm]);generalize hy:IntKind.i64.wrap ((BitVec.ofInt IntKind.i64.bits (xs.getD (m/8) 0) ||| BitVec.ofInt IntKind.i64.bits (IntKind.i64.wrap (1*2^(min (7-(m:Int).tmod 8).toNat IntKind.i64.bits)))).toNat:Int)=y at *;clear hxat hex hinj;refine aU ?_;exact⟨(hx7.set (by omega)).trans (Ext.app _ _),by simp;omega,by simp(disch:=try exact dO)only[evB,xtr, *],by simp(disch:=try exact dO)only[evB,xtr, *],by simp(disch:=try exact dO)only[evB,xtr, *],by simp(disch:=try exact dO)only[evB,xtr, *],by simp(disch:=try exact dO)only[evB,xtr, *],hsucc,xs.set (m/8) y,by simp(disch:=try exact dO)only[evB,xtr, *],hwb2,_,_,_,_,_,_,_,_,_,_,_,_,_,_,_,_,_,ncM⟩
  ·have hc:¬ (0<=n/\di=true):=by simpa using h
   clear h;rw[if_neg hc]at hex;refine aU ?_;exact⟨hx7.trans (Ext.app _ _),by simp;omega,by simp(disch:=try exact dO)only[evB,xtr, *],by simp(disch:=try exact dO)only[evB,xtr, *],by simp(disch:=try exact dO)only[evB,xtr, *],by simp(disch:=try exact dO)only[evB,xtr, *],by simp(disch:=try exact dO)only[evB,xtr, *],hsucc,xs,by simp(disch:=try exact dO)only[evB,xtr, *],hwb.congr (fun v _=>by rw[gG,hex];simp),_,_,_,_,_,_,_,_,_,_,_,_,_,_,_,_,_,ncM⟩
 ·rintro S H6 ⟨hx6,hlM,f0,f1,f7,fq,fd,hbp,xs,fm,hwb,z0,z2,z4,z5,z6,z10,z11,z12,z13,z14,z15,z16,z17,z18,z19,z20,z24,rfl⟩
  have hxl:=hwb.1;have hl6:=hx6.1;refine aU ?_;refine dU ?_;refine⟨hx6.set byO,.inr (.inr (.inr ⟨hv,s,gf,_,xs,hf,hso,hbp,by rw[hWn];exact hwb,rfl,?_⟩))⟩;rw[<-hxl];exact .inr ⟨M,none,_,xs,rfl,by rw[aH byO];exact fm,fun _ _=>rfl,Nat.le_refl _,Nat.le_refl _,.inl rfl⟩
end Go.Proofs.YtmnlgdpdgjbfgaaGreat
