/- Lemmas. -/
import Derived.Test.YtgiojnobcjnibaaGreatDoorH20
set_option linter.all false
set_option maxHeartbeats 4000000
set_option maxRecDepth 20000
def Ww{P:Prop}(h:P:=by simp(disch:=try exact dO)only[evB,xtr,Nat.reduceAdd,Nat.reduceBEq,Int.reduceToNat, *]):P:=h
def Xh{P:Prop}(h:P:=by rw[<-hG];exact Ext.app _ _):P:=h
def XS{P:Prop}(h:P:=by rw[Nat.shiftLeft_eq];omega):P:=h
def XH{P:Prop}(h:P:=by rw[<-hG,bI];rfl):P:=h
def X9{P:Prop}(h:P:=by rw[a,c];exact f3):P:=h
def XE{P:Prop}(h:P:=by rw[<-hG];exact aI):P:=h
namespace Go.Proofs.YtgiojnobcjnibaaGreatDoor
open Go.Abs Go.RS
section
def kN{p:Int->Bool}{l:XI}{i:Nat}(h:i<l.length):(l.take<|i+1).all p=((l.take i).all p&&p (l.getD i 0)):=by rw[List.take_add_one,bc₀ h,List.all_append,au₀,bc₀ h];simp
def inF(sz:Int)(l:XI):Bool:=l.all λx=>!(decide (x<0) || decide (sz<=x))
theorem lU{sz:Int}{l:XI}:inF sz l=true↔∀x ∈ l,0<=x/\x<sz:=by
 unfold inF;rw[List.all_eq_true];constructor
 .intro h x a
  have:=h x a;simp at this;omega
 .intro h x a
  have:=h x a;simp;omega
namespace XGc
def xtr:=zzi @Int.cast_ofNat_Int<|zzi @Oi<|zzi @mf<|zzi @me<|zzi @md @fv.eq_1
end XGc
open XGc
theorem has{lo:Nat}{H:Heap}{ch sz po:Int}{v:Value}{l:XI}(F:po<=9223372036854775807)(A:SlI H v l)(J:l.length<=1000000000):Ev cp lo 119 [fv ch sz po,v] H λv H'=>Ext H H'/\∃b,v=.bool b/\(b=true↔(∃f,OkF ch sz po f)/\inF sz l=true):=by
 have s:=A;obtain⟨B,c,rfl⟩:=A.len;unfold fv;apply stG rfl rfl;unfold Md;simp only[kB,aC];refine aA ?_;refine ay ?_;apply aB (valid (ch:=ch) (sz:=sz) (po:=po) F);rintro v w ⟨a,b,rfl,k⟩;have D:w.get H.length=some _:=a.get aM;have a:=a.of_app;have I:=Heap.get_lt D;(try simp only[aC]);refine aK ?_ ?_<;>intro h
 .have q:b=false:=Wy
  clear h;subst q;refine aA ?_;refine aL ?_;exact⟨a,false,rfl,by simp at k ⊢;intro f G;exact absurd G<|k f⟩
 have r:b=true:=Wy
 clear h;subst r;have K:=k.1 rfl;refine aA ?_;apply aP (λi S H'=>w=H'/\inF sz (l.take i)=true/\∃(z:Nat->Value),S=[z 0,z 1,.pointer<|some ⟨H.length,0,none⟩,.bool false,z 4,z 5,.slice B l.length c,l.length,i]) l.length
 .exact⟨rfl,rfl,aH rfl⟩
 .rintro i S H' n ⟨rfl,-,z,rfl⟩
  exact⟨_,aM,Wc⟩
 .rintro i S H' n ⟨rfl,d,z,rfl⟩
  obtain⟨b,o,sp,C,xs,e,g,m,L⟩:=s.els 0 byO;cases e;have g:=a.get g;have y:=m i n;have u:=kN (p:=λx=>!(decide (x<0) || decide (sz<=x))) n;clear m;refine aA ?_;refine aK ?_ ?_<;>intro h
  .have t:¬ inF sz l=true:=by
    intro j;have:=lU.1 j (l.getD i 0) (by rw[au₀,bc₀ n];exact List.getElem_mem n);simp at h;simp at this;omega
   clear h u;refine aA ?_;refine aL ?_;exact⟨a,false,rfl,by simp[t]⟩
  .have j:inF sz (l.take<|i+1)=true:=by
    unfold inF at d ⊢;rw[u,d,h];rfl
   clear h u;refine aA ?_;exact⟨We,j,aH ncM⟩
 .rintro S H' ⟨rfl,d,z,rfl⟩
  rw[List.take_of_length_le<|Nat.le_refl _]at d;refine aA ?_;refine aL ?_;exact⟨a,true,rfl,by simp[true_iff];exact⟨K,d⟩⟩
def sU{b:Nat}(a:b<2^63):IntKind.i64.wrap ((BitVec.ofInt IntKind.i64.bits (b:Int) &&& BitVec.ofInt IntKind.i64.bits 1).toNat:Int)=((b%2:Nat):Int):=by rw[show IntKind.i64.bits=64 from rfl,BitVec.toNat_and,BitVec.ofInt_natCast,show BitVec.ofInt 64 1=BitVec.ofNat 64 1 by rfl,BitVec.toNat_ofNat,BitVec.toNat_ofNat,Nat.mod_eq_of_lt byO];show IntKind.i64.wrap ((b &&& 1:Nat):Int)=_;rw[Nat.and_one_is_mod,wrap_i64 byO byO]
def Ol(a b:Nat):cl a b=(if b%2=1 then a else 0) ^^^ cl (2*a) (b/2):=by
 have e:b=(b%2) ^^^ ((b/2) <<< 1):=by
  apply Nat.eq_of_testBit_eq;intro i;rw[Nat.testBit_xor,Nat.testBit_shiftLeft];cases i with
  | zero=>simp
  | succ i=>
   have:(b%2).testBit (i+1)=false:=Nat.testBit_lt_two_pow (by have:=Nat.mod_lt b (show 2>0 by omega);have:2^1<=2^(i+1):=Nat.pow_le_pow_right byO byO;omega);rw[this];simp[Nat.testBit_add_one]
 have c:cl a ((b/2) <<< 1)=cl (2*a) (b/2):=by
  rw[<-jh,jK<|b/2,<-kf,jh,Nat.shiftLeft_eq,bb₀]
 conv=>lhs;rw[e]
 rw[lK,c];congr 1;split
 next h=>rw[h,xK]
 next h=>rw[show b%2=0 by omega,jL]
def dbl{P a:Nat}(f:2<=P)(g:a<2^P.log2):rm (2*a) P=(if 2^P.log2<=2*a then 2*a ^^^ P else 2*a)/\(if 2^P.log2<=2*a then 2*a ^^^ P else 2*a)<2^P.log2:=by
 have b:P≠0:=byO;split
 next h=>
  have c:2*a ^^^ P<2^P.log2:=by
   have e:(2*a).log2=P.log2:=mj h (by rw[Nat.pow_succ];omega);have d:2*a≠0:=by have:0<2^P.log2:=Nat.pow_pos byO;omega
   have:=Bf b d byO;rw[e,Nat.sub_self]at this;simpa using this
  refine⟨AL b c (m:=1) ?_,c⟩;rw[xK,Nat.xor_comm,Nat.xor_assoc,Nat.xor_self,Nat.xor_zero]
 next h=>
  exact⟨kI b byO,byO⟩
def product{lo:Nat}{H:Heap}{f:FD}(L:f.Ok){a b:Nat}(R:a<f.q)(U:b<f.q):Ev cp lo 176 [fvf f,.int .i64 a,.int .i64 b] H λv H'=>Ext H H'/\v=.int .i64 (fj f a b):=by
 have h2:=L.two;unfold fvf fv;apply stG rfl rfl;unfold GA;simp only[kB,aC];refine aA ?_;refine aK ?_ ?_<;>intro h
 .have d:f.poly=0:=Ws
  clear h;have hm:=xy (a:=(a:Int)) (b:=(b:Int)) (A:=4096) (B:=4096) byO byO byO byO byO;have M:((a:Int)*(b:Int)).tmod (f.q:Int)=((a*b%f.q:Nat):Int):=by
   rw[<-Int.natCast_mul,Int.tmod_eq_emod_of_nonneg byO];rfl
  refine aA ?_;refine aL ?_;refine⟨Ext.app _ _,?_⟩;unfold fj;rw[if_pos d];rfl
 have d:f.poly≠0:=Ws
 clear h;rcases L with ⟨e,_⟩|⟨_,Q,J,g,hi⟩
 .exact absurd e d
 replace g:=g.symm;have V:f.poly<2^13:=bd₀ (dM f.poly)<|Nat.pow_le_pow_right byO byO;have n:fj f a b=rm (cl a b) f.poly:=by unfold fj;rw[if_neg d]
 rw[n];clear n;generalize q:H++[some [Value.int .i64 (FD.ch f),Value.int .i64 f.q,Value.int .i64 f.poly]]=G at *;have g0:G.get H.length=some [Value.int .i64 (FD.ch f),Value.int .i64 f.q,Value.int .i64 f.poly]:=by rw[<-q];exact aI
 have D:Ext H G:=by rw[<-q];exact Ext.app _ _
 clear q;refine aA ?_;apply aj (λm S H'=>∃(x y s:Nat) (i:Value),x<f.q/\y<f.q/\s<f.q/\m=y/\G=H'/\s ^^^ rm (cl x y) f.poly=rm (cl a b) f.poly/\S=[i,.int .i64 x,.int .i64 y,.pointer<|some ⟨H.length,0,none⟩,(0:Int),.int .i64 s]) b
 .exact⟨a,b,0,_,R,U,byO,rfl,rfl,by rw[Nat.zero_xor],rfl⟩
 rintro m S H' ⟨x,y,s,i,C,hy,W,rfl,rfl,c,rfl⟩;(try simp only[aC]);refine aK ?_ ?_<;>intro h
 .have o:0<m:=Wy
  clear h;have Z:=sU (b:=m) byO;have N:=nh m 1 .i64 Wd;have O:=lh (a:=x) (k:=1) byO byO;have a4:=jT (a:=s) (b:=x) byO byO;have P:=jT (a:=x <<< 1) (b:=f.poly) XS byO;have I:x <<< 1=2*x:=XS
  rw[I]at O P;have K:=dbl Q (a:=x) (by rw[g];exact C);rw[g]at K;have t:=Ol x m;have Y:(Int.toNat 1)=1:=rfl;have X:s ^^^ x<f.q:=by rw[<-g];exact Nat.xor_lt_two_pow (by rw[g];exact W) (by rw[g];exact C)
  clear I;(try simp only[aC]);apply pz (λl H'=>G=H'/\∃(i:Value),l=[i,.int .i64 x,.int .i64 m,.pointer<|some ⟨H.length,0,none⟩,(0:Int),.int .i64 ((if m%2=1 then s ^^^ x else s:Nat):Int)])
  .refine aK ?_ ?_<;>intro h
   .have j:m%2=1:=Ws
    clear h;refine aA ?_;exact⟨We,_,by rw[if_pos j]⟩
   .have j:¬ m%2=1:=Ws
    clear h;(try simp only[aC]);exact⟨We,_,by rw[if_neg j]⟩
  rintro l H' ⟨rfl,i,rfl⟩;generalize p:(if m%2=1 then s ^^^ x else s:Nat)=F;have z:F<f.q:=by rw[<-p];split<;>assumption
  refine aA ?_;apply ij (λl H'=>G=H'/\∃(i:Value),l=[i,.int .i64 ((if f.q<=2*x then 2*x ^^^ f.poly else 2*x:Nat):Int),.int .i64 m,.pointer<|some ⟨H.length,0,none⟩,(0:Int),.int .i64 F])
  .refine aK ?_ ?_<;>intro h
   .have j:f.q<=2*x:=Ws
    clear h;refine aA ?_;exact⟨We,_,by rw[if_pos j]⟩
   .have j:¬ f.q<=2*x:=Ws
    clear h;(try simp only[aC]);exact⟨We,_,by rw[if_neg j]⟩
  rintro l H' ⟨rfl,i,rfl⟩;obtain⟨u,w⟩:=K;generalize (if f.q<=2*x then 2*x ^^^ f.poly else 2*x:Nat)=x' at *;refine aA ?_;simp only[bJ];refine⟨m/2,byO,x',m/2,F,_,w,byO,z,rfl,We,?_,by first|rfl|(simp only[Y,N];rfl)⟩;rw[<-c,t,JI d,<-yQ d<|2*x,u,<-p];split
  .rw[kI (r:=x) d (by rw[g];exact C),Nat.xor_assoc]
  .rw[kI (r:=0) d<|Nat.pow_pos byO,Nat.zero_xor]
 .have o:m=0:=Ws
  clear h;rw[o,jL,kI d<|Nat.pow_pos byO,Nat.xor_zero]at c;refine aA ?_;refine aL ?_;exact⟨D,by rw[<-c];rfl⟩
end
section
variable{H:Heap}{lo:Nat}
namespace XGd
def xtr:=zzi @Int.cast_ofNat_Int<|zzi @Oi<|zzi @mf<|zzi @me<|zzi @md<|zzi @fv.eq_1 @fvf.eq_1
end XGd
open XGd
def order{f:FD}(l:f.Ok){a:El f}{n:Nat}(q:@Ord (El f) l.fd a n)(C:n<=f.q):Ev cp lo 203 [fvf f,.int .i64 a.val] H λv H'=>Ext H H'/\v=.int .i64 n:=by
 have I:=l.two
 letI:=l.fd
 unfold fvf fv;apply stG rfl rfl;unfold N9;simp[kB,aC];refine aA ?_;generalize o:H++[some [Value.int .i64 (FD.ch f),Value.int .i64 f.q,Value.int .i64 f.poly]]=G at *;have c:G.get H.length=some [Value.int .i64 (FD.ch f),Value.int .i64 f.q,Value.int .i64 f.poly]:=by rw[<-o];exact aI
 have j:Ext H G:=by rw[<-o];exact Ext.app _ _
 apply aj (λm S H'=>∃(k x:Nat) (t u:Value),1<=k/\k<=n/\m=n-k/\(pw a k).val=x/\Ext H H'/\H'.get H.length=some [Value.int .i64 (FD.ch f),Value.int .i64 f.q,Value.int .i64 f.poly]/\S=[t,.int .i64 a.val,.pointer<|some ⟨H.length,0,none⟩,(0:Int),.int .i64 k,.int .i64 x,u]) (n-1)
 .exact⟨1,a.val,_,_,byO,q.1,rfl,by rw[uY],j,c,rfl⟩
 rintro m S D ⟨k,x,t,u,z,A,rfl,g,i,c,rfl⟩;have e:(1:El f).val=1:=rfl;have s:x<f.q:=by rw[<-g];exact(pw a k).lt
 (try simp only[aC]);refine aK ?_ ?_<;>intro h
 .have r:x≠1:=Ws
  have B:k<n:=by
   apply Decidable.byContradiction;intro w;have:k=n:=byO;rw[this,q.2.1,e]at g;exact r g.symm
  refine aA ?_;refine ay ?_;apply aB (product l s a.lt);rintro v F ⟨b,rfl⟩;have c:=b.get c;have b:=i.trans b;have d:fj f x a.val=(pw a<|k+1).val:=by rw[<-g];rfl
  refine aA ?_;simp only[bJ];exact⟨n-(k+1),byO,k+1,(pw a<|k+1).val,_,_,byO,byO,rfl,rfl,b,c,by rw[<-d];simp only[ap₀,Int.natCast_one];rfl⟩
 .have y:x=1:=Ws
  have p:k=n:=by
   apply Decidable.byContradiction;intro w;apply q.2.2 k byO byO;apply El.ext;rw[g,y];rfl
  refine aA ?_;refine aL ?_;exact⟨i,by rw[<-p];rfl⟩
structure Gn {f:FD}(hf:f.Ok)(g:El f):Prop where
 pos:1<=g.val
 ord:@Ord (El f) hf.fd g (f.q-1)
 min:∀x:El f,1<=x.val->x.val<g.val->¬ @Ord (El f) hf.fd x (f.q-1)
def Ny{f:FD}(b:f.Ok):∃g,Gn b g:=by
 letI:=b.fd
 have⟨g,c,i⟩:=b.num.cyclic;have⟨m,_,⟨x,o,d,h⟩,a⟩:=least (P:=λk=>∃x:El f,x.val=k/\1<=x.val/\Ord x (f.q-1)) g.val ⟨g,rfl,by
  have:g.val≠0:=λe=>c<|El.ext e;omega,i⟩
 exact⟨x,d,h,λy n j l=>a y.val byO ⟨y,rfl,n,l⟩⟩
def EM{f:FD}(b:f.Ok){g:El f}(j:Gn b g):Ev cp lo 175 [fvf f] H λv H'=>Ext H H'/\v=.int .i64 g.val:=by
 have M:=b.two;have D:=g.lt;unfold fvf fv;apply stG rfl rfl;unfold NL;simp[kB,aC];refine aA ?_;generalize l:H++[some [Value.int .i64 (FD.ch f),Value.int .i64 f.q,Value.int .i64 f.poly]]=G at *;have c:G.get H.length=some [Value.int .i64 (FD.ch f),Value.int .i64 f.q,Value.int .i64 f.poly]:=by rw[<-l];exact aI
 have i:Ext H G:=by rw[<-l];exact Ext.app _ _
 have F:=j.pos;apply aj (λm S H'=>∃(k:Nat) (w x y:Value),1<=k/\k<=g.val/\m=g.val-k/\Ext H H'/\H'.get H.length=some [Value.int .i64 (FD.ch f),Value.int .i64 f.q,Value.int .i64 f.poly]/\S=[w,.pointer<|some ⟨H.length,0,none⟩,(0:Int),.int .i64 k,x,y]) (g.val-1)
 .exact⟨1,_,_,_,byO,byO,rfl,i,c,rfl⟩
 rintro m S K ⟨k,w,x,y,o,I,rfl,t,c,rfl⟩;obtain⟨n,d,s⟩:∃n,@Ord (El f) b.fd ⟨k,byO⟩ n/\n<=f.q-1:=by
  letI:=b.fd
  refine b.num.ord ⟨k,byO⟩ λe=>?_;have:k=0:=congrArg El.val e;omega
 have u:n<=f.q-1:=s;refine bV ?_;refine aS (order b d byO) ?_;rintro v L ⟨a,rfl⟩;have c:=a.get c;have a:=t.trans a;(try simp only[aC]);refine aK ?_ ?_<;>intro h
 .have r:n≠f.q-1:=Ws
  have J:k<g.val:=by
   apply Decidable.byContradiction;intro B;have p:(⟨k,byO⟩:El f)=g:=El.ext (by show k=g.val;omega);rw[p]at d;have z:=@jP (El f) b.fd g n (f.q-1) d j.ord.2.1;have A:=@jP (El f) b.fd g (f.q-1) n j.ord d.2.1;exact r<|Nat.dvd_antisymm z A
  refine aA ?_;simp only[bJ];exact⟨g.val-(k+1),byO,k+1,_,_,_,byO,byO,rfl,a,c,ncM⟩
 .have C:n=f.q-1:=Ws
  have q:k=g.val:=by
   apply Decidable.byContradiction;intro B;rw[C]at d;exact j.min ⟨k,byO⟩ o (by show k<g.val;omega) d
  refine aA ?_;refine aL ?_;exact⟨a,by rw[<-q];rfl⟩
def uI{f:FD}(b:f.Ok):∃a,OkF (FD.ch f) f.q f.poly a:=⟨f,b,rfl,rfl,rfl⟩
def sI{f:FD}(b:f.Ok):(f.poly:Int)<=9223372036854775807:=by
 rcases b with ⟨e,_⟩|⟨_,d,a,h,g⟩
 .omega
 .have c:f.poly<2^13:=bd₀ (dM f.poly)<|Nat.pow_le_pow_right byO byO
  omega
def xH{f:FD}(c:f.Ok){g:El f}(j:Gn c g):Ev cp lo 131 [fvf f] H λv H'=>Ext H H'/\v=.tuple #[g.val,(0:Int)]:=by unfold fvf fv;apply stG rfl rfl;unfold Mj;simp[kB,aC];refine aA ?_;refine ay ?_;apply aB (has (ch:=FD.ch f) (sz:=f.q) (po:=f.poly) (l:=[]) (sI c) (.inl ⟨rfl,rfl⟩) Wc);rintro v h ⟨a,b,rfl,i⟩;have m:h.get H.length=some _:=a.get aM;have a:=a.of_app;have d:b=true:=i.2 ⟨uI c,rfl⟩;subst d;(try simp[aC]);refine pt ?_;refine bV ?_;apply aB (EM c j);rintro v k ⟨e,rfl⟩;refine aA ?_;refine aL ?_;exact⟨a.trans e,rfl⟩
def Kl{q a b:Nat}(d:a<q)(e:b<q):inF q [(a:Int),(b:Int)]=true:=by rw[lU];intro x c;simp at c;rcases c with rfl|rfl<;>omega
def Od{f:FD}(g:f.Ok){a b:Nat}(i:a<f.q)(j:b<f.q):Ev cp lo 132 [fvf f,a,b] H λv H'=>Ext H H'/\v=.tuple #[(fj f a b),(0:Int)]:=by unfold fvf fv;apply stG rfl rfl;unfold Mk;simp[kB,aC];refine aA ?_;refine ay ?_;apply aB (has (ch:=FD.ch f) (sz:=f.q) (po:=f.poly) (l:=[(a:Int),(b:Int)]) (sI g) (.inr ⟨_,0,none,_,_,rfl,bI,rfl,Wc,.inl rfl,Wc⟩) Wc);rintro v k ⟨c,m,rfl,d⟩;have o:k.get H.length=some _:=c.get aM;have c:=c.of_app;have e:m=true:=d.2 ⟨uI g,Kl i j⟩;subst e;(try simp[aC]);refine pt ?_;refine bV ?_;apply aB (product g i j);rintro v n ⟨h,rfl⟩;refine aA ?_;refine aL ?_;exact⟨c.trans h,rfl⟩
def zQ(f:FD)(a b:Nat):Nat:=if f.poly=0 then(a+f.q-b)%f.q else a ^^^ b
def Ce{f:FD}(e:f.Ok){a b:Nat}(c:a<f.q)(d:b<f.q):zQ f a b=gA f a (vD f b):=by
 unfold zQ gA vD;split
 .rw[Nat.add_mod_mod,show a+(f.q-b)=a+f.q-b by omega]
 .rfl
def MN{f:FD}{a b:Nat}(c:2<=f.q)(d:a<f.q)(e:b<f.q):((a:Int)-b+f.q).tmod (f.q:Int)=(((a+f.q-b)%f.q:Nat):Int):=by rw[Int.tmod_eq_emod_of_nonneg byO,show(a:Int)-b+f.q=((a+f.q-b:Nat):Int) by omega];rfl
section
variable {f:FD}[OkC f]
def mF{g:El f}(h:Gn (OkC.ok (f:=f)) g):g≠0:=λe=>by
 have a:=h.pos;rw[e,nK]at a;omega
theorem eg{g:El f}(h:Gn (OkC.ok (f:=f)) g):Ord g<|f.q-1:=h.ord
def qle:2<=f.q/\f.q<=4096:=(OkC.ok (f:=f)).two
structure ArH (H:Heap)(g:El f)(be bl:Nat):Prop where
 ex:∃E:XI,H.get be=some (fM E)/\E.length=f.q-1/\∀n,n<f.q-1->E.getD n 0=((pw g n).val:Nat)
 lg:∃L:XI,H.get bl=some (fM L)/\L.length=f.q/\∀n,n<f.q-1->L.getD (pw g n).val 0=(n:Nat)
theorem ArH.mono{H H':Heap}{g:El f}{i j:Nat}(h:ArH H g i j)(e:Ext H H'):ArH H' g i j:=by have⟨⟨E,a,b⟩,⟨L,c,d⟩⟩:=h;exact⟨⟨E,e.get a,b⟩,⟨L,e.get c,d⟩⟩
theorem ArH.lt{H:Heap}{g:El f}{e i:Nat}(h:ArH H g e i):e<H.length/\i<H.length:=by have⟨⟨E,a,b⟩,⟨L,c,d⟩⟩:=h;exact⟨Heap.get_lt a,Heap.get_lt c⟩
theorem ArH.keep{b:Nat}{H H':Heap}{g:El f}{i j:Nat}(h:ArH H g i j)(e:Keep b H H')(k:i≠b)(l:j≠b):ArH H' g i j:=by have⟨⟨E,a,b⟩,⟨L,c,d⟩⟩:=h;exact⟨⟨E,e.get a k,b⟩,⟨L,e.get c l,d⟩⟩
end
def arC(f:FD)(be bl:Nat):XV:=[(FD.ch f),f.q,.slice (some ⟨be,0,none⟩) (f.q-1)<|f.q-1,.slice (some ⟨bl,0,none⟩) f.q f.q]
def arV(f:FD)(be bl:Nat):Value:=.agg #[(FD.ch f),f.q,.slice (some ⟨be,0,none⟩) (f.q-1)<|f.q-1,.slice (some ⟨bl,0,none⟩) f.q f.q]
def si{f:FD}(a:f.Ok):FD.ch f=2↔f.poly≠0:=by
 unfold FD.ch;rcases a with ⟨e,b,_⟩|⟨e,_⟩
 .rw[if_pos e];simp[e];omega
 .rw[if_neg e];simp[e]
theorem m0{l:XI}{i:Nat}{v:Int}(h:i<l.length):(l.set i v).getD i 0=v:=by rw[au₀,List.getElem?_set_self h];rfl
theorem pK{l:XI}{i j:Nat}{v:Int}(h:i≠j):(l.set i v).getD j 0=l.getD j 0:=by rw[au₀,List.getElem?_set_ne h,<-au₀]
end
variable{H:Heap}{lo:Nat}{v:Value}
section
variable {f:FD}[OkC f]
namespace XArR
def xtr:=zzi @Int.cast_ofNat_Int<|zzi @fv.eq_1 @fvf.eq_1
end XArR
open XArR
def En{g:El f}(R:lo<=H.length)(A:Gn (OkC.ok (f:=f)) g):Ev cp lo 93 [fvf f] H λv H'=>Ext H H'/\∃u w,H.length<=u/\H.length<=w/\v=arV f u w/\ArH H' g u w:=by
 have X:=qle (f:=f);have p:=Bd (mF A)<|eg A;unfold fvf fv;apply stG rfl rfl;unfold Ry;simp only[kB,aC];refine aA ?_;refine ay ?_;apply aB (xH (OkC.ok (f:=f)) A);rintro v t ⟨b,rfl⟩;have W:t.get H.length=some _:=b.get aM;have K:t.get (H.length+1)=some _:=b.get aM;have b:=b.of_app;have Q:=Heap.get_lt K;have U:((f.q:Int)-1).toNat=f.q-1:=byO;refine aA ?_;generalize y:t.length=M at *;apply aP (λi S H'=>Ext H H'/\M+2<H'.length/\H'.get H.length=some [.int .i64 (FD.ch f),.int .i64 f.q,.int .i64 f.poly]/\H'.get (H.length+1)=some [.int .i64 0,.int .i64 0,.slice none 0 0,.slice none 0 0]/\H'.get (M+2)=some (arC f M<|M+1) /\
  ∃E L:XI,H'.get M=some (fM E)/\H'.get (M+1)=some (fM L)/\E.length=f.q-1/\L.length=f.q/\(∀k,k<i->E.getD k 0=((pw g k).val:Nat))/\(∀k,k<i->L.getD (pw g k).val 0=(k:Nat))/\∃(z:Nat->Value),S=[z 0,.pointer<|some ⟨H.length,0,none⟩,.pointer<|some ⟨H.length+1,0,none⟩,.int .i64 g.val,.pointer<|some ⟨M+2,0,none⟩,.int .i64 (pw g i).val,z 6,z 7,z 8,z 9,z 10,z 11,z 12,z 13,.int .i64 ((f.q-1:Nat):Int),.int .i64 i,z 16,z 17,z 18,z 19,z 20,z 21]) (f.q-1)
 .refine⟨b.trans<|Ext.app _ _,Wr,Ww,Ww,?_,List.replicate (f.q-1) 0,List.replicate f.q 0,?_,?_,Wc,Wc,by omega,by omega,aH rfl⟩
  .rw[<-y,bI];rfl
  .rw[<-y,aI]
  .rw[<-y,bI];rfl
 .rintro i S H' F ⟨s,G,l,m,j,E,L,n,o,q,r,c,d,z,rfl⟩
  exact⟨_,aM,Wc⟩
 .rintro i S D F ⟨s,G,l,m,j,E,L,n,o,q,r,c,d,z,rfl⟩
  unfold arC at j;have C:=(pw g i).lt;have N:E.length<=f.q-1/\f.q-1<=E.length:=byO;have O:L.length<=f.q/\f.q<=L.length:=byO;have J:((i:Nat):Int)<((f.q-1:Nat):Int):=byO;clear q r;refine aA ?_;apply rp aM aM (.inr (by simp[aT]));refine bV ?_;have x:Ext H<|List.set (List.set D M<|some<|fM<|E.set i ↑(pw g i).val) (M+1)<|some<|fM<|L.set (pw g i).val ↑i:=(s.set byO).set byO;apply aB (Od (f:=f) (OkC.ok (f:=f)) C g.lt);rintro v V ⟨a,rfl⟩;have I:fj f (pw g i).val g.val=(pw g<|i+1).val:=rfl;have l:=a.get (i:=H.length) (by rw[aQ byO,aQ byO];exact l);have m:=a.get (i:=H.length+1) (by rw[aQ byO,aQ byO];exact m);have j:=a.get (i:=M+2) (by rw[aQ byO,aQ byO];exact j);have n:=a.get (i:=M) (by rw[aQ byO,aE byO]);have o:=a.get (i:=M+1) (by rw[aE Wr]);have B:=Heap.get_lt j;have a:=x.trans a;refine aA ?_;refine⟨a,B,l,m,j,_,_,n,o,Wr,Wr,λk P=>?_,λk P=>?_,aH ncM⟩
  .by_cases e:k=i
   .subst e;rw[m0 byO]
   .rw[pK λh=>e h.symm];exact c k byO
  .by_cases e:k=i
   .subst e;rw[m0 byO]
   .rw[pK λh=>e<|p k i byO F<|El.ext h.symm];exact d k byO
 .rintro S D ⟨s,G,l,m,j,E,L,n,o,q,r,c,d,z,rfl⟩
  unfold arC at j;refine aA ?_;refine aL ?_;exact⟨s.set byO,M,M+1,byO,byO,rfl,⟨E,by rw[aQ byO];exact n,q,c⟩,⟨L,by rw[aQ byO];exact o,r,d⟩⟩
def Vg{g i:Nat}(x y:El f):Ev cp lo 204 [arV f g i,x.val,y.val] H λv H'=>Ext H H'/\v=.int .i64 (x-y).val:=by
 have k:=qle (f:=f);have l:=x.lt;have m:=y.lt;have e:(x-y).val=zQ f x.val y.val:=(Ce (OkC.ok (f:=f)) x.lt y.lt).symm;have d:=si<|OkC.ok (f:=f);rw[e];have n:=jT (a:=x.val) (b:=y.val) byO byO;have o:=MN k.1 l m;unfold arV;apply stG rfl rfl;unfold Na;simp[kB,aC];refine aA ?_;refine aK ?_ ?_<;>intro h
 .have c:f.poly≠0:=d.1 Ws
  refine aA ?_;refine aL ?_;refine⟨Ext.app _ _,?_⟩;unfold zQ;rw[if_neg c];rfl
 .have c:f.poly=0:=by
   apply Decidable.byContradiction;intro j;have:=d.2 j;simp at h;omega
  refine aA ?_;refine aL ?_;refine⟨Ext.app _ _,?_⟩;unfold zQ;rw[if_pos c];rfl
def mulR{m n:Nat}{g:El f}(d:Gn (OkC.ok (f:=f)) g)(o:ArH H g m n)(x y:El f):Ev cp lo 184 [arV f m n,x.val,y.val] H λv H'=>Ext H H'/\v=.int .i64 (x*y).val:=by
 have F:=qle (f:=f);have G:=x.lt;have I:=y.lt;have u:=o.lt;have⟨⟨E,C,q,c⟩,⟨L,D,s,a⟩⟩:=o;unfold arV;apply stG rfl rfl;unfold NT;simp[kB,aC];refine aA ?_;refine aK ?_ ?_<;>intro h
 .have B:x*y=0:=by
   have:x.val=0\/y.val=0:=Ws
   rcases this with k|k
   .rw[fR k,zero_mul]
   .rw[fR k,mul_zero]
  refine aA ?_;refine aL ?_;exact⟨Ext.app _ _,by rw[B];rfl⟩
 have b:¬ x.val=0/\¬ y.val=0:=Ws
 obtain⟨i,z,rfl⟩:=pow_sur (mF d) (eg d) (x:=x) (λe=>b.1 (by rw[e];rfl));obtain⟨j,A,rfl⟩:=pow_sur (mF d) (eg d) (x:=y) (λe=>b.2 (by rw[e];rfl));have J:=a i z;have K:=a j A;have l:(i+j)%(f.q-1)<f.q-1:=Nat.mod_lt _ byO;have w:=c _ l;have p:((i:Int)+(j:Int)).tmod ((f.q:Int)-1)=(((i+j)%(f.q-1):Nat):Int):=by
  rw[Int.tmod_eq_emod_of_nonneg byO,show((i:Int)+j)=((i+j:Nat):Int) by omega,show((f.q:Int)-1)=((f.q-1:Nat):Int) by omega];rfl
 have r:E.length<=f.q-1/\f.q-1<=E.length:=byO;have t:L.length<=f.q/\f.q<=L.length:=byO;rw[<-L4 (eg d) (i:=i) (j:=j)];refine aA ?_;refine aL ?_;exact⟨Ext.app _ _,rfl⟩
def SL{m n:Nat}{g:El f}(c:Gn (OkC.ok (f:=f)) g)(o:ArH H g m n)(x y:El f)(l:y≠0):Ev cp lo 186 [arV f m n,x.val,y.val] H λv H'=>Ext H H'/\v=.int .i64 (x*inv y).val:=by
 have F:=qle (f:=f);have G:=x.lt;have I:=y.lt;have z:=o.lt;have⟨⟨E,C,s,b⟩,⟨L,D,u,a⟩⟩:=o;unfold arV;apply stG rfl rfl;unfold NV;simp[kB,aC];refine aA ?_;refine aK ?_ ?_<;>intro h
 .have B:x*inv y=0:=by
   have:x.val=0:=Ws
   rw[fR this,zero_mul]
  refine aA ?_;refine aL ?_;exact⟨Ext.app _ _,by rw[B];rfl⟩
 have d:¬ x.val=0:=Ws
 obtain⟨i,p,rfl⟩:=pow_sur (mF c) (eg c) (x:=x) (λe=>d (by rw[e];rfl));obtain⟨j,q,rfl⟩:=pow_sur (mF c) (eg c) (x:=y) l;have J:=a i p;have K:=a j q;have k:(i+(f.q-1)-j)%(f.q-1)<f.q-1:=Nat.mod_lt _ byO;have A:=b _ k;have r:((i:Int)-(j:Int)+(f.q:Int)-1).tmod ((f.q:Int)-1)=(((i+(f.q-1)-j)%(f.q-1):Nat):Int):=by
  rw[Int.tmod_eq_emod_of_nonneg byO,show((i:Int)-j+f.q-1)=((i+(f.q-1)-j:Nat):Int) by omega,show((f.q:Int)-1)=((f.q-1:Nat):Int) by omega];rfl
 have t:E.length<=f.q-1/\f.q-1<=E.length:=byO;have w:L.length<=f.q/\f.q<=L.length:=byO;rw[<-PK (eg c) p q];refine aA ?_;refine aL ?_;exact⟨Ext.app _ _,rfl⟩
def addR{e g:Nat}(x y:El f):Ev cp lo 185 [arV f e g,x.val,y.val] H λv H'=>Ext H H'/\v=.int .i64 (x+y).val:=by
 have l:=qle (f:=f);have m:=x.lt;have n:=y.lt;have d:=si<|OkC.ok (f:=f);rw[val_add];have j:=jT (a:=x.val) (b:=y.val) byO byO;have k:((x.val:Int)+(y.val:Int)).tmod (f.q:Int)=(((x.val+y.val)%f.q:Nat):Int):=by
  rw[Int.tmod_eq_emod_of_nonneg byO];rfl
 unfold arV;apply stG rfl rfl;unfold NU;simp[kB,aC];refine aA ?_;refine aK ?_ ?_<;>intro h
 .have c:f.poly≠0:=d.1 Ws
  refine aA ?_;refine aL ?_;refine⟨Ext.app _ _,?_⟩;unfold gA;rw[if_neg c];rfl
 .have c:f.poly=0:=by
   apply Decidable.byContradiction;intro i;have:=d.2 i;simp at h;omega
  refine aA ?_;refine aL ?_;refine⟨Ext.app _ _,?_⟩;unfold gA;rw[if_pos c];rfl
def uU{c d:Nat}{g:El f}(m:Gn (OkC.ok (f:=f)) g)(e:ArH H g c d)(n:Nat)(q:n<=1000000000000):Ev cp lo 114 [arV f c d,n] H λv H'=>Ext H H'/\v=.int .i64 (pw g n).val:=by
 have p:=qle (f:=f);have k:=e.lt;have⟨⟨E,o,i,a⟩,_⟩:=e;have b:n%(f.q-1)<f.q-1:=Nat.mod_lt _ byO;have l:=a _ b;have h:(n:Int).tmod ((f.q:Int)-1)=((n%(f.q-1):Nat):Int):=by
  rw[Int.tmod_eq_emod_of_nonneg byO,show((f.q:Int)-1)=((f.q-1:Nat):Int) by omega];rfl
 have j:E.length<=f.q-1/\f.q-1<=E.length:=byO;rw[<-yN (eg m).2.1 n];unfold arV;apply stG rfl rfl;unfold Mc;simp[kB,aC];refine aA ?_;refine aL ?_;exact⟨Ext.app _ _,rfl⟩
end
section
variable {f:FD}[OkC f]
def rf(x:El f):Value:=x.val
def elL(l:List<|El f):XV:=l.map rf
abbrev SlE(H:Heap)(v:Value)(l:List<|El f):Prop:=Sl (rf (f:=f)) H v l
theorem cX(l:List<|El f):(elL l).length=l.length:=by simp[elL]
def lN{l:List<|El f}{i:Nat}(h:i<l.length):(elL l)[i]?=some (.int .i64 (l.getD i 0).val):=by grind[elL,rf]
def gu(l:List<|El f)(i:Nat)(v:El f):(elL l).set i v.val=elL (l.set i v):=by grind[elL,rf,List.map_set]
def jU(n:Nat):fM (List.replicate n 0)=elL (List.replicate n (0:El f)):=by simp[elL,fM,rf,nK]
def eS{l:List<|El f}(h:SlE H v l)(j:0<l.length):∃b o sp a xs,v=.slice (some ⟨b,o,sp⟩) l.length a/\H.get b=some xs/\(∀i,i<l.length->xs[o+i]?=some (.int .i64 (co l i).val))/\o+l.length<=xs.length:=by have⟨b,o,sp,a,xs,c,d,e,g⟩:=h.els 0 j;exact⟨b,o,sp,a,xs,c,d,e,g⟩
def bO{b n:Nat}{sp:Option Nat}{l:List<|El f}(h:H.get b=some (elL l))(c:l.length=n)(a:sp=none\/sp=some 1:=by first|exact .inl rfl|exact .inr rfl):SlE H (.slice (some ⟨b,0,sp⟩) n n) l:=Sl.whole h c a
def td{l:List<|El f}{i:Nat}(h:i<l.length)(x:El f):hor (l.drop i) x=hor (l.drop<|i+1) x*x+co l i:=by rw[List.drop_eq_getElem_cons h,qq h];rfl
namespace XGf
def xtr:=zzi @Int.cast_ofNat_Int<|zzi @arC.eq_1<|zzi @lN<|zzi @cX<|zzi @gu @jU
end XGf
open XGf
def By{l q:Nat}{g:El f}{p:List<|El f}(U:lo<=H.length)(P:Gn (OkC.ok (f:=f)) g)(O:ArH H g l q)(D:SlE H v p)(V:p.length<=1000000000)(x:El f):Ev cp lo 182 [arV f l q,v,.int .i64 x.val] H λv H'=>Ext H H'/\v=.int .i64 (hor p x).val:=by
 have z:=D;obtain⟨L,c,rfl⟩:=D.len;unfold arV;apply stG rfl rfl;unfold NR;simp[kB,aC];refine aA ?_;generalize w:H++[some [Value.int .i64 (FD.ch f),Value.int .i64 f.q,Value.slice (some ⟨l,0,none⟩) (f.q-1)<|f.q-1,Value.slice (some ⟨q,0,none⟩) f.q f.q]]=G at *;have j:G.get H.length=some (arC f l q):=by rw[<-w];exact aI
 have t:Ext H G:=by rw[<-w];exact Ext.app _ _
 apply aj (λm S H'=>∃(k:Nat) (F I J K u:Value),k<=p.length/\m=k/\Ext H H'/\H'.get H.length=some (arC f l q)/\S=[F,.slice L p.length c,.int .i64 x.val,.pointer<|some ⟨H.length,0,none⟩,(0:Int),.int .i64 (hor (p.drop k) x).val,.int .i64<|(k:Int)-1,I,J,K,u]) p.length
 .exact⟨p.length,_,_,_,_,_,Nat.le_refl _,rfl,t,j,by rw[List.drop_length];rfl⟩
 rintro m S X ⟨k,F,I,J,K,u,hk,rfl,a,j,rfl⟩;have Q:=a.1;(try simp only[aC]);refine aK ?_ ?_<;>intro h
 .have s:0<m:=Ws
  obtain⟨n,rfl⟩:∃n,m=n+1:=⟨m-1,byO⟩;have C:n<p.length:=byO;have⟨b,o,sp,M,xs,e,A,r,W⟩:=eS z byO;cases e;have A:=a.get A;have B:=r n C;have N:(((n+1:Nat):Int)-1)=(n:Int):=byO;have y:=td C x;rw[N];refine bV ?_;refine aS (mulR P (O.mono a) (hor (p.drop<|n+1) x) x) ?_;rintro v Y ⟨d,rfl⟩;have j:=d.get j;have d:=a.trans d;have R:=d.1;refine bV ?_;apply aB (addR _<|co p n);rintro v Z ⟨i,rfl⟩;have j:=i.get j;have i:=d.trans i;refine aA ?_;simp only[bJ];exact⟨n,byO,n,_,_,_,_,_,byO,rfl,i,j,by rw[y]⟩
 .have s:m=0:=Ws
  subst s;refine aA ?_;refine aL ?_;exact⟨a,rfl⟩
def Cw(a b:Nat):aG (.minmax true) [.int .i64 a,.int .i64 b] H=some (.int .i64 ((max a b:Nat):Int)):=by grind[BQ]
theorem yY{d:Nat}{c:XV}(h:H.get d=some c):H.set d (some c)=H:=by
 apply List.ext_getElem Wc
 grind[dv]
theorem xO(l:List<|El f):oneCells (elL l)=true:=by grind[elL,rf,oneCells,Value.oneCell']
def MY{p D:List<|El f}{d n c:Nat}{R:Wq}(e:lo<=d)(l:H.get d=some (elL D))(s:D.length=n)(m:SlE H v p)(r:p.length<=D.length)(k:∀w,R w<|H.set d<|some<|elL<|p++D.drop p.length):wpH cp lo (.cpy 1) [.slice (some ⟨d,0,none⟩) n c,v] H R:=by
 simp[wpH];rcases m with ⟨rfl,rfl⟩|⟨b,o,sp,i,xs,rfl,j,q,h,-⟩
 .grind[bh,hsem,yY]
 .rw[Hz e,j,l]
  have g:(xs.drop o).take p.length=elL p:=q;have a:min p.length n*1=p.length:=byO;simp[a,g,xO]
  simp_all[putCells,elL]
theorem yj(p:List<|El f){N:Nat}(h:p.length<=N):p++(List.replicate N (0:El f)).drop p.length=tab N (co p):=by
 apply RK
 all_goals grind[co]
noncomputable def oD(p q:List<|El f)(n:Nat)(c:El f):List<|El f:=tab (max p.length<|q.length+n) λi=>co p i-c*sh n (co q) i
def DU{t u:Nat}{g:El f}{vp vq:Value}{p q:List<|El f}(j0:lo<=H.length)(hg:Gn (OkC.ok (f:=f)) g)(ha:ArH H g t u)(X:SlE H vp p)(Y:SlE H vq q)(o0:p.length<=100000000)(q0:q.length<=100000000)(n:Nat)(hn:n<=100000000)(c:El f) :
  Ev cp lo 178 [arV f t u,vp,vq,n,c.val] H λv H'=>Ext H H'/\∃b,H.length<=b/\v=.slice (some ⟨b,0,none⟩) (oD p q n c).length (oD p q n c).length/\H'.get b=some (elL<|oD p q n c):=by
 have P:=X;have Q:=Y;have R:(oD p q n c).length=max p.length (q.length+n):=aJ _ _;obtain⟨ap,b0,rfl⟩:=X.len;obtain⟨aq,cq,rfl⟩:=Y.len;have l0:=λ(H:Heap)=>Cw (H:=H) p.length<|q.length+n;rw[R];unfold arV;have hN:max p.length (q.length+n)<=200000000:=byO;have M:((q.length:Int)+(n:Int))=((q.length+n:Nat):Int):=byO;apply stG rfl rfl;unfold NN;simp only[kB,aC];refine aA ?_;generalize I:H++_=G at *;have D:G.get H.length=some (arC f t u):=by rw[<-I];exact aI
 have x:G.get (H.length+1)=some (elL<|List.replicate (max p.length<|q.length+n) (0:El f)):=by rw[<-I];exact bI
 have j:Ext H G:=by rw[<-I];exact Ext.app _ _
 clear I;have B:=Heap.get_lt x;refine ay ?_;apply MY byO x Wc (P.mono j) Wr;intro w;rw[yj p byO];generalize r:G.set (H.length+1) _=J;have D:Heap.get J H.length=some (arC f t u):=by rw[<-r,aQ byO];exact D
 have x:Heap.get J (H.length+1)=some (elL<|tab (max p.length<|q.length+n)<|co p):=by rw[<-r,aE byO]
 have j:Ext H J:=by rw[<-r];exact j.set byO
 clear r B;have c0:q.length+n<=max p.length (q.length+n):=byO;generalize L:max p.length (q.length+n)=N at *;refine aA ?_;apply aP (λi S H'=>Ext H H'/\H'.get H.length=some (arC f t u)/\H'.get (H.length+1)=some (elL<|tab N λk=>if n<=k/\k<n+i then co p k-c*co q (k-n) else co p k)/\∃(z:Nat->Value),S=[z 0,z 1,z 2,n,c.val,.pointer<|some ⟨H.length,0,none⟩,.slice none 0 0,.slice (some ⟨H.length+1,0,none⟩) N N,z 8,z 9,z 10,.slice aq q.length cq,q.length,i,z 14,z 15,z 16,z 17,z 18,z 19]) q.length
 .exact⟨j,D,by rw[x];congr 2;exact ag λk _=>(if_neg (show ¬ (n<=k/\k<n+0) by omega)).symm,aH rfl⟩
 .rintro i S H' W ⟨hx,s,m,z,rfl⟩
  exact⟨_,aM,Wc⟩
 .clear D x j
  rintro i S H1 W ⟨a,s,m,z,rfl⟩;obtain⟨b,o,sp,a0,xs,e,U,y,r0⟩:=eS Q byO;cases e;have U:=a.get U;have V:=y i W;have C:=aJ N λk=>if n<=k/\k<n+i then co p k-c*co q (k-n) else co p k;have O:(tab N λk=>if n<=k/\k<n+i then co p k-c*co q (k-n) else co p k).length<=N/\N<=(tab N λk=>if n<=k/\k<n+i then co p k-c*co q (k-n) else co p k).length:=byO;have A:(tab N λk=>if n<=k/\k<n+i then co p k-c*co q (k-n) else co p k).getD (i+n) 0=co p (i+n):=by
   rw[fe byO,if_neg byO]
  have Z:(tab N λk=>if n<=k/\k<n+i then co p k-c*co q (k-n) else co p k).set (i+n) (co p (i+n)-c*co q i)=tab N λk=>if n<=k/\k<n+(i+1) then co p k-c*co q (k-n) else co p k:=by
   rw[lq];refine ag λk hk=>?_;by_cases e:k=i+n
   .rw[if_pos e,if_pos byO,e,show i+n-n=i by omega]
   .rw[if_neg e]
    by_cases F:n<=k/\k<n+i
    .rw[if_pos F,if_pos byO]
    .rw[if_neg F,if_neg byO]
  generalize tab N (λk=>if n<=k/\k<n+i then co p k-c*co q (k-n) else co p k)=T at *;have e0:((i:Int)+(n:Int))=((i+n:Nat):Int):=byO;have B:=Heap.get_lt m;clear y C;refine aA ?_;refine ay ?_;refine aS (mulR hg (ha.mono a) c<|co q i) ?_;rintro v H2 ⟨d,rfl⟩;have s:=d.get s;have m:=d.get m;have d:=a.trans d;refine bV ?_;refine aB (Vg (co p<|i+n)<|c*co q i) ?_;rintro v H3 ⟨h,rfl⟩;have s:=h.get s;have m:=h.get m;have h:=d.trans h;have h0:=Heap.get_lt m;clear A;refine aA ?_;exact⟨h.set (by omega),Ww,by rw[aE (by omega)],aH ncM⟩
 .rintro S H1 ⟨a,s,m,z,rfl⟩
  refine aA ?_;refine aL ?_;refine⟨a,H.length+1,byO,rfl,?_⟩;rw[m];unfold oD;rw[L];congr 2;refine ag λk hk=>?_;by_cases K:n<=k/\k<n+q.length
  .rw[if_pos K,lA _ K.1]
  .rw[if_neg K]
   by_cases F:n<=k
   .rw[lA _ F,mM (l:=q) byO,mul_zero]
    exact(show(co p k)=((co p k)-0) from cD [(co p k)] (.v 0) (.add (.v 0)<|.neg .zero) rfl)
   .rw[nD _ byO,mul_zero]
    exact(show(co p k)=((co p k)-0) from cD [(co p k)] (.v 0) (.add (.v 0)<|.neg .zero) rfl)
end
section
variable {f:FD}[OkC f]
def jX{H G:Heap}{c:XV}{L:Heap}(h:H++some c::L=G):G.get H.length=some c/\Ext H G:=by subst h;exact⟨aI,Ext.app _ _⟩
open XGf
def uW{s t:Nat}{g:El f}{vp vq:Value}{p q:List<|El f}(j0:lo<=H.length)(hg:Gn (OkC.ok (f:=f)) g)(ha:ArH H g s t)(Z:SlE H vp p)(hq:SlE H vq q)(l0:p.length<=100000000)(o0:q.length<=100000000)(n:Nat)(hn:n<=100000000) :
  Ev cp lo 180 [arV f s t,vp,vq,n] H λv H'=>Ext H H'/\∃b,H.length<=b/\v=.slice (some ⟨b,0,none⟩) n n/\H'.get b=some (elL<|tab n<|cv (co p)<|co q):=by
 have L:=Z;have M:=hq;obtain⟨ap,u,rfl⟩:=Z.len;obtain⟨N,P,rfl⟩:=hq.len;unfold arV;apply stG rfl rfl;unfold NP;simp only[kB,aC];refine aA ?_;generalize F:H++_=G at *;have Q:G.get H.length=some (arC f s t):=by rw[<-F];exact aI
 have R:G.get (H.length+1)=some (elL<|tab n λ_=>(0:El f)):=by rw[<-F,bI,gH];rfl
 have C:Ext H G:=by rw[<-F];exact Ext.app _ _
 clear F;apply aP (λi S H'=>Ext H H'/\H'.get H.length=some (arC f s t)/\H'.get (H.length+1)=some (elL<|tab n<|rows (co p) (co q) i)/\∃(z:Nat->Value),S=[z 0,z 1,.slice N q.length P,n,.pointer<|some ⟨H.length,0,none⟩,.slice none 0 0,.slice (some ⟨H.length+1,0,none⟩) n n,z 7,z 8,z 9,z 10,.slice ap p.length u,p.length,i,z 14,z 15,z 16,z 17,z 18,z 19]) p.length
 .exact⟨C,Q,R,aH rfl⟩
 .rintro i S H' I ⟨hx,d,c,z,rfl⟩
  exact⟨_,aM,Wc⟩
 .clear Q R C
  rintro i S J I ⟨a,d,c,z,rfl⟩;obtain⟨b,o,sp,b0,xs,e,U,x,q0⟩:=eS L byO;cases e;have w:=a.get U;have y:=x i I;have r:=Heap.get_lt c;have c0:=Heap.get_lt U;clear x;refine aA ?_;clear y;apply aP (λj S H'=>Ext H H'/\H'.get H.length=some (arC f s t)/\H'.get (H.length+1)=some (elL<|tab n λk=>rows (co p) (co q) i k+(if i<=k/\k<i+j then co p i*co q (k-i) else 0))/\∃(z:Nat->Value),S=[z 0,z 1,.slice N q.length P,n,.pointer<|some ⟨H.length,0,none⟩,.slice none 0 0,.slice (some ⟨H.length+1,0,none⟩) n n,i,.int .i64 (co p i).val,j,z 10,.slice (some ⟨b,o,sp⟩) p.length u,p.length,i,z 14,z 15,z 16,z 17,z 18,z 19]) (min q.length<|n-i)
  .refine⟨a,d,?_,aH rfl⟩
   rw[c];congr 2;refine ag λk _=>?_;rw[if_neg byO,add_zero]
  .rintro j S H' hj ⟨hx,d,c,z,rfl⟩
   exact⟨_,aM,Wr⟩
  .clear d c r w a
   rintro j S J hj ⟨a,d,c,z,rfl⟩;obtain⟨b',o',s0,O,ys,e',V,A,r0⟩:=eS M byO;cases e';have V:=a.get V;have X:=A j byO;have B:(tab n λk=>rows (co p) (co q) i k+(if i<=k/\k<i+j then co p i*co q (k-i) else 0)).getD (i+j) 0=rows (co p) (co q) i (i+j):=by
    rw[fe byO,if_neg byO,add_zero]
   have a0:(tab n λk=>rows (co p) (co q) i k+(if i<=k/\k<i+j then co p i*co q (k-i) else 0)).set (i+j) (rows (co p) (co q) i (i+j)+co p i*co q j)=tab n λk=>rows (co p) (co q) i k+(if i<=k/\k<i+(j+1) then co p i*co q (k-i) else 0):=by
    rw[lq];refine ag λk Y=>?_;by_cases e:k=i+j
    .rw[if_pos e,if_pos byO,e,show i+j-i=j by omega]
    .rw[if_neg e]
     by_cases D:i<=k/\k<i+j
     .rw[if_pos D,if_pos byO]
     .rw[if_neg D,if_neg byO]
   have K:(tab n λk=>rows (co p) (co q) i k+(if i<=k/\k<i+j then co p i*co q (k-i) else 0)).length<=n/\n<=(tab n λk=>rows (co p) (co q) i k+(if i<=k/\k<i+j then co p i*co q (k-i) else 0)).length:=Xc
   generalize tab n (λk=>rows (co p) (co q) i k+(if i<=k/\k<i+j then co p i*co q (k-i) else 0))=T at *;have e0:((i:Int)+(j:Int))=((i+j:Nat):Int):=byO;have r:=Heap.get_lt c;clear A;refine aA ?_;refine ay ?_;refine aS (mulR hg (ha.mono a) (co p i)<|co q j) ?_;rintro v H2 ⟨h,rfl⟩;have d:=h.get d;have c:=h.get c;have h:=a.trans h;refine bV ?_;refine aB (addR (rows (co p) (co q) i<|i+j)<|co p i*co q j) ?_;rintro v H3 ⟨m,rfl⟩;have d:=m.get d;have c:=m.get c;have m:=h.trans m;have h0:=Heap.get_lt c;clear B;refine aA ?_;exact⟨m.set (by omega),Ww,by rw[aE (by omega)],aH ncM⟩
  .clear d c r w a
   rintro S J ⟨a,d,c,z,rfl⟩;refine aA ?_;refine⟨a,d,?_,aH ncM⟩;rw[c];congr 2;refine ag λk Y=>?_;rw[wc];congr 1;by_cases W:i<=k
   .rw[lA _ W]
    by_cases D:k<i+min q.length (n-i)
    .rw[if_pos ⟨W,D⟩]
    .rw[if_neg byO,mM (l:=q) byO,mul_zero]
   .rw[if_neg byO,nD _ byO,mul_zero]
 .rintro S J ⟨a,d,c,z,rfl⟩
  refine aA ?_;refine aL ?_;refine⟨a,H.length+1,byO,rfl,?_⟩;rw[c];congr 2;exact ag λk Y=>DY (λi I=>mM I) k
theorem DF:∀i:Nat,(nsm (1:El f) i).val=i%FD.ch f
 | 0=>by rw[Nat.zero_mod];rfl
 | i+1=>by
  have h:=DF i;show(nsm (1:El f) i+1).val=_;rw[val_add,h,Ja];unfold gA FD.ch;rcases(OkC.ok (f:=f))with ⟨e,b,_⟩|⟨e,_⟩
  .rw[if_pos e,if_pos e,Nat.mod_add_mod]
  .rw[if_neg e,if_neg e]
   rcases Nat.mod_two_eq_zero_or_one i with a|a
   .rw[a,show(i+1)%2=1 by omega];rfl
   .rw[a,show(i+1)%2=0 by omega];rfl
def NewV(n:Nat)(v:Value):Prop:=∀b o sp k c,v=.slice (some ⟨b,o,sp⟩) k c->n<=b
theorem NewV.own{lo sz n b:Nat}{H:Heap}{v:Value}{c:XV}(h:Own lo sz H v b c)(a:n<=b):NewV n v:=by
 intro d o sp k c' e;obtain⟨_,⟨rfl,_⟩|⟨m,_,_,rfl,_⟩⟩:=h
 .cases e
 .cases e;exact a
theorem NewV.mk{n b o:Nat}{sp:Option Nat}{k c:Nat}(h:n<=b):NewV n<|.slice (some ⟨b,o,sp⟩) k c:=by intro d o' a g c' e;cases e;exact h
theorem NewV.mono{n m:Nat}{v:Value}(h:NewV n v)(a:m<=n):NewV m v:=λb o sp k c e=>Nat.le_trans a<|h b o sp k c e
def fp{d:Type}{enc:d->Value}{H H':Heap}{l:List d}{n b:Nat}(h:Sl enc H v l)(k:NewV n v)(e:Keep b H H')(m:b<n):Sl enc H' v l:=by
 rcases h with h|⟨g,o,sp,a,xs,c,i,j⟩
 .exact .inl h
 .have:=k _ _ _ _ _ c
  exact .inr ⟨g,o,sp,a,xs,c,e.get i byO,j⟩
noncomputable def PI(p:List<|El f):List<|El f:=tab (p.length-1) λk=>nsm 1 (k+1)*co p (k+1)
def yz{t u:Nat}{g:El f}{p:List<|El f}(Z:lo<=H.length)(U:Gn (OkC.ok (f:=f)) g)(Q:ArH H g t u)(L:SlE H v p)(c0:p.length<=100000000)(b0:1<=p.length):Ev cp lo 183 [arV f t u,v] H λv H'=>Ext H H'/\SlE H' v (PI p)/\NewV H.length v:=by
 have y:=L;have h2:=qle (f:=f);have R:2<=FD.ch f:=by unfold FD.ch;split<;>omega
 obtain⟨N,c,rfl⟩:=L.len;unfold arV;apply stG rfl rfl;unfold NS;simp[kB,aC];refine aA ?_;generalize w:H++_=G at *;have C:G.get H.length=some (arC f t u):=by rw[<-w];exact aI
 have r:Ext H G:=by rw[<-w];exact Ext.app _ _
 have P:G.length=H.length+1:=by rw[<-w];simp
 apply aP (λi S H'=>Ext H H'/\H'.get H.length=some (arC f t u)/\∃s m,H.length<m/\Own lo 1 H' s m (elL<|tab i λk=>nsm 1 (k+1)*co p (k+1))/\∃(z:Nat->Value),S=[z 0,.slice N p.length c,.pointer<|some ⟨H.length,0,none⟩,.slice none 0 0,s,((i+1:Nat):Int),z 6,z 7,z 8,z 9]) (p.length-1)
 .exact⟨r,C,_,H.length+1,byO,Own.nil byO,aH rfl⟩
 .rintro i S H' V ⟨hx,l,s,m,q,a,z,rfl⟩
  exact⟨_,aM,Wr⟩
 .clear C r
  rintro i S M V ⟨d,l,s,m,q,a,z,rfl⟩;have⟨b,o,sp,O,xs,e,D,n,e0⟩:=eS y byO;cases e;have D:=d.get D;have I:=n (i+1) byO;have W:=d.1;have K:((i+1:Nat):Int).tmod (FD.ch f:Int)=((nsm (1:El f)<|i+1).val:Nat):=by
   rw[DF,Int.tmod_eq_emod_of_nonneg byO];rfl
  have a0:((i+1:Nat):Int)<p.length:=byO;refine bV ?_;apply aB (mulR U (Q.mono d) (nsm 1<|i+1)<|co p<|i+1);rintro v B ⟨h,rfl⟩;have l:=h.get l;have a:=a.mono h;have h:=d.trans h;have X:=h.1;have x:=aJ i λk=>nsm (1:El f) (k+1)*co p (k+1);refine aA ?_;refine ay ?_;apply dD (c:=[rf<|nsm 1 (i+1)*co p (i+1)]) (a.mono<|Ext.app _ _) Wr byO byO (by rw[cX,x];omega) aI Wc rfl rfl;rintro v' H3 j J Y;have F:=Ext.app B [some [Value.int .i64 (nsm (1:El f) (i+1)*co p (i+1)).val]];have A:=J.ext (h.trans F) byO;have l:=J.get (F.get l) byO;simp[as₀,ak₀,an₀]at j;refine aA ?_;refine⟨A,l,_,B.length+(0+1),byO,?_,aH ncM⟩
  .have e:elL (tab (i+1) λk=>nsm (1:El f) (k+1)*co p (k+1))=elL (tab i λk=>nsm 1 (k+1)*co p (k+1))++[rf<|nsm 1 (i+1)*co p (i+1)]:=by
    simp[elL,tab,List.range_succ]
   rw[e];exact j
 .rintro S M ⟨d,l,s,m,q,a,z,rfl⟩
  refine aA ?_;refine aL ?_;exact⟨d,Sl.ofOwn a,NewV.own a byO⟩
end
def cdC(f:FD)(r b:Nat):XV:=[(FD.ch f),f.q,f.poly,r,b]
def cdV(f:FD)(r b:Nat):Value:=.agg #[(FD.ch f),f.q,f.poly,r,b]
section
variable {f:FD}[OkC f]
noncomputable def ft(g:El f)(r b:Nat)(w:List<|El f):List<|El f:=tab r λi=>dK w<|pw g<|b+i
namespace XGh
def xtr:=zzi @Int.cast_ofNat_Int<|zzi @arC.eq_1<|zzi @cdC.eq_1<|zzi @lN<|zzi @cX<|zzi @gu @jU
end XGh
open XGh
def uq{u x:Nat}{g:El f}{w:List<|El f}(e0:lo<=H.length)(Y:Gn (OkC.ok (f:=f)) g)(W:ArH H g u x)(hw:SlE H v w)(h0:w.length<=100000000)(r b:Nat)(hr:r<=100000000)(hb:b<=100000000) :
  Ev cp lo 177 [arV f u x,cdV f r b,v] H λv H'=>Ext H H'/\∃D,H.length<=D/\v=.slice (some ⟨D,0,none⟩) r r/\H'.get D=some (elL<|ft g r b w):=by
 have P:=hw;obtain⟨I,J,rfl⟩:=hw.len;unfold arV cdV;apply stG rfl rfl;unfold NM;simp only[kB,aC];refine aA ?_;generalize y:H++_=G at *;have Q:G.get H.length=some (arC f u x):=by rw[<-y];exact aI
 have R:G.get (H.length+1)=some (cdC f r b):=by rw[<-y,bI];rfl
 have U:G.get (H.length+2)=some (elL<|tab r λ_=>(0:El f)):=by rw[<-y,bI,gH];rfl
 have C:Ext H G:=by rw[<-y];exact Ext.app _ _
 clear y;apply aP (λi S H'=>Ext H H'/\H'.get H.length=some (arC f u x)/\H'.get (H.length+1)=some (cdC f r b)/\H'.get (H.length+2)=some (elL<|tab r λk=>if k<i then dK w (pw g<|b+k) else 0)/\∃(z:Nat->Value),S=[z 0,z 1,.slice I w.length J,.pointer<|some ⟨H.length,0,none⟩,.pointer<|some ⟨H.length+1,0,none⟩,.slice none 0 0,.slice (some ⟨H.length+2,0,none⟩) r r,z 7,z 8,z 9,z 10,r,i,z 13,z 14,z 15,z 16,z 17,z 18,z 19,z 20,z 21,z 22]) r
 .refine⟨C,Q,R,?_,aH rfl⟩
  rw[U];apply congrArg (λt=>some<|elL t);exact ag λk _=>(if_neg byO).symm
 .rintro i S H' Z ⟨hx,l,m,h,z,rfl⟩
  exact⟨_,aM,Wc⟩
 .clear Q R U C
  rintro i S F Z ⟨d,l,m,h,z,rfl⟩;have q:=d.1;have L:((b:Int)+(i:Int))=((b+i:Nat):Int):=byO;refine aA ?_;refine ay ?_;apply aB (uU Y (W.mono d) (b+i) byO);rintro v H2 ⟨c,rfl⟩;have l:=c.get l;have m:=c.get m;have h:=c.get h;have c:=d.trans c;clear L;refine aA ?_;generalize s:pw g (b+i)=a at *;apply aP (λj S H'=>Ext H H'/\H'.get H.length=some (arC f u x)/\H'.get (H.length+1)=some (cdC f r b)/\H'.get (H.length+2)=some (elL<|tab r λk=>if k<i then dK w (pw g<|b+k) else if k=i then dK (w.take j) a else 0)/\∃(z:Nat->Value),S=[z 0,z 1,.slice I w.length J,.pointer<|some ⟨H.length,0,none⟩,.pointer<|some ⟨H.length+1,0,none⟩,.slice none 0 0,.slice (some ⟨H.length+2,0,none⟩) r r,i,a.val,z 9,z 10,r,i,z 13,.slice I w.length J,w.length,j,z 17,z 18,z 19,z 20,z 21,z 22]) w.length
  .refine⟨c,l,m,?_,aH rfl⟩
   rw[h];congr 2;refine ag λk _=>?_;by_cases p:k<i
   .rw[if_pos p,if_pos p]
   .rw[if_neg p,if_neg p];split<;>rfl
  .rintro j S H' M ⟨hx,l,m,h,z,rfl⟩
   exact⟨_,aM,Wc⟩
  .clear l m h c d q
   rintro j S F M ⟨d,l,m,h,z,rfl⟩;obtain⟨D,o,sp,b0,xs,e,V,A,j0⟩:=eS P byO;cases e;have V:=d.get V;have X:=A j M;have q:=Heap.get_lt h;have B:(tab r λk=>if k<i then dK w (pw g<|b+k) else if k=i then dK (w.take j) a else 0).getD i 0=dK (w.take j) a:=by
    rw[fe Z,if_neg byO,if_pos rfl]
   have a0:(tab r λk=>if k<i then dK w (pw g<|b+k) else if k=i then dK (w.take j) a else 0).set i (dK (w.take j) a*a+co w j)=tab r λk=>if k<i then dK w (pw g<|b+k) else if k=i then dK (w.take<|j+1) a else 0:=by
    rw[lq];refine ag λk N=>?_;by_cases e:k=i
    .rw[if_pos e,if_neg byO,if_pos e,ma M]
    .rw[if_neg e,if_neg e,if_neg e]
   have O:(tab r λk=>if k<i then dK w (pw g<|b+k) else if k=i then dK (w.take j) a else 0).length<=r/\r<=(tab r λk=>if k<i then dK w (pw g<|b+k) else if k=i then dK (w.take j) a else 0).length:=Xc
   generalize tab r (λk=>if k<i then dK w (pw g<|b+k) else if k=i then dK (w.take j) a else 0)=T at *;clear A;refine aA ?_;refine ay ?_;refine aS (mulR Y (W.mono d) (dK (w.take j) a) a) ?_;rintro v H2 ⟨c,rfl⟩;have l:=c.get l;have m:=c.get m;have h:=c.get h;have c:=d.trans c;refine bV ?_;refine aB (addR (dK (w.take j) a*a)<|co w j) ?_;rintro v H3 ⟨n,rfl⟩;have l:=n.get l;have m:=n.get m;have h:=n.get h;have n:=c.trans n;have c0:=Heap.get_lt h;clear B;refine aA ?_;exact⟨n.set (by omega),Ww,Ww,by rw[aE (by omega)],aH ncM⟩
  .clear l m h c d q
   rintro S F ⟨d,l,m,h,z,rfl⟩;refine aA ?_;refine⟨d,l,m,?_,aH ncM⟩;rw[h];congr 2;refine ag λk N=>?_;rw[List.take_length];by_cases p:k<i
   .rw[if_pos p,if_pos byO]
   .rw[if_neg p]
    by_cases K:k=i
    .rw[if_pos K,if_pos byO,<-s,K]
    .rw[if_neg K,if_neg byO]
 .rintro S F ⟨d,l,m,h,z,rfl⟩
  refine aA ?_;refine aL ?_;refine⟨d,H.length+2,byO,rfl,?_⟩;rw[h];congr 2;exact ag λk N=>if_pos N
noncomputable def xl(s:List<|El f):List<|El f:=trim<|tab (bml (co s) s.length).1 (Reg.run (co s) s.length).C
def C1{s:List<|El f}{n:Nat}(C:Ser<|El f){L lenC:Nat}(a:dg C L)(b:∀i,lenC<=i->C i=0)(e:L<=n):sm (min (L+1) lenC) (λi=>C i*co s (n-i))=cv C (co s) n:=by
 unfold cv;exact(kY byO λi c d=>by
  by_cases h:lenC<=i
  .rw[b i h,zero_mul]
  .rw[a i byO,zero_mul]).symm
def oQ(s:Ser<|El f):∀n,(bml s n).1<=n+1/\(bml s n).2+(Reg.run s n).m<=n+2/\(Reg.run s n).L<=n
 | 0=>by simp[bml,Reg.run,Reg.init]
 | n+1=>by
  have⟨a,b,c⟩:=oQ s n;simp[bml,Reg.run,Reg.next];split
  .simp only;omega
  .split
   next h=>simp[if_pos h];omega
   next h=>simp[if_neg h];omega
end
section
variable {f:FD}[OkC f]
def uk(n:Nat)(F:Nat->El f):sm (n+1) F=sm n F+F n:=rfl
namespace XGi
def xtr:=zzi @Int.cast_ofNat_Int<|zzi @arC.eq_1<|zzi @lN<|zzi @cX<|zzi @gu<|zzi @jU @ite_self.{1}
end XGi
open XGi
def IU{be bl:Nat}{g:El f}{s:List<|El f}(L1:lo<=H.length)(hg:Gn (OkC.ok (f:=f)) g)(ha:ArH H g be bl)(hs:SlE H v s)(W1:s.length<=10000000) :
  Ev cp lo 181 [arV f be bl,v] H λv H'=>Ext H H'/\SlE H' v (xl s)/\NewV H.length v:=by
 have u1:=hs;obtain⟨av,q0,rfl⟩:=hs.len;unfold arV;refine stG rfl rfl ?_;unfold NQ;simp only[kB,aC];refine aA ?_;generalize hG:H++_=G at *;have g0:G.get H.length=some (arC f be bl):=XE
 have g1:G.get (H.length+1)=some (elL<|tab 1 (s1:Ser<|El f)):=XH
 have g2:G.get (H.length+2)=some (elL<|tab 1 (s1:Ser<|El f)):=XH
 have y0:Ext H G:=Xh
 clear hG;refine aP (λn S H'=>Ext H H'/\H'.get H.length=some (arC f be bl)/\∃Z b2,(H.length<=Z/\H.length<=b2)/\H'.get Z=some (elL<|tab (bml (co s) n).1 (Reg.run (co s) n).C)/\H'.get b2=some (elL<|tab (bml (co s) n).2 (Reg.run (co s) n).B)/\∃W z9 X Y r O t u w x y z A D F I J K,S=[W,.slice av s.length q0,.pointer<|some ⟨H.length,0,none⟩,.slice none 0 0,.slice (some ⟨Z,0,none⟩) (bml (co s) n).1 (bml (co s) n).1,.slice (some ⟨b2,0,none⟩) (bml (co s) n).2 (bml (co s) n).2,.int .i64 (Reg.run (co s) n).L,.int .i64 (Reg.run (co s) n).m,.int .i64 (Reg.run (co s) n).b.val,z9,X,Y,r,O,t,u,.int .i64 s.length,.int .i64 n,w,x,y,z,A,D,F,I,J,K]) s.length ?_ ?_ ?_ ?_
 .exact⟨y0,g0,H.length+1,H.length+2,⟨byO,byO⟩,g1,g2,_,_,_,_,_,_,_,_,_,_,_,_,_,_,_,_,_,_,rfl⟩
 .rintro n S H' hn ⟨hx,U,Z,b2,b0,P,Q,W,z9,X,Y,r,O,t,u,w,x,y,z,A,D,F,I,J,K,rfl⟩
  exact⟨_,aM,Wc⟩
 .clear g0 g1 g2 y0
  rintro n S H1 hn ⟨p,U,Z,b2,b0,P,Q,W,z9,X,Y,r,O,t,u,w,x,y,z,A,D,F,I,J,K,rfl⟩;have N:=iy (co s) n;obtain⟨T0,X0,j0⟩:=oQ (co s) n;obtain⟨H0,h1,o0⟩:=qA (co s) n;have hd:=C1 (s:=s) (n:=n) (Reg.run (co s) n).C N.gen.deg H0 j0;have c:=bml.eq_2 (co s) n;have a:Reg.run (co s) (n+1)=(Reg.run (co s) n).next (co s) n:=rfl;unfold Reg.next at a;have o1:=N.b;have T1:=N.mp;have y1:=N.gen.deg;clear N;generalize hR:Reg.run (co s) n=R at *;generalize s0:(bml (co s) n).1=l1 at *;generalize w0:(bml (co s) n).2=l2 at *;have V:=aJ l1 R.C;have e0:(tab l1 R.C).length<=l1/\l1<=(tab l1 R.C).length:=byO;clear V;refine aA ?_;refine ij (λS H'=>Ext H H'/\H'.get H.length=some (arC f be bl)/\H'.get Z=some (elL<|tab l1 R.C)/\H'.get b2=some (elL<|tab l2 R.B)/\∃j W r O t u w x y z A D F I J K,j=min (R.L+1) l1/\S=[W,.slice av s.length q0,.pointer<|some ⟨H.length,0,none⟩,.slice none 0 0,.slice (some ⟨Z,0,none⟩) l1 l1,.slice (some ⟨b2,0,none⟩) l2 l2,.int .i64 R.L,.int .i64 R.m,.int .i64 R.b.val,.int .i64 n,.int .i64 ((sm j λi=>R.C i*co s (n-i)).val:Nat),.int .i64 j,r,O,t,u,.int .i64 s.length,.int .i64 n,w,x,y,z,A,D,F,I,J,K]) ?_ ?_
  .refine aP (λj S H'=>Ext H H'/\H'.get H.length=some (arC f be bl)/\H'.get Z=some (elL<|tab l1 R.C)/\H'.get b2=some (elL<|tab l2 R.B)/\∃W r O t u w x y z A D F I J K,S=[W,.slice av s.length q0,.pointer<|some ⟨H.length,0,none⟩,.slice none 0 0,.slice (some ⟨Z,0,none⟩) l1 l1,.slice (some ⟨b2,0,none⟩) l2 l2,.int .i64 R.L,.int .i64 R.m,.int .i64 R.b.val,.int .i64 n,.int .i64 ((sm j λi=>R.C i*co s (n-i)).val:Nat),.int .i64 j,r,O,t,u,.int .i64 s.length,.int .i64 n,w,x,y,z,A,D,F,I,J,K]) (min (R.L+1) l1) ?_ ?_ ?_ ?_
   .exact⟨p,U,P,Q,_,_,_,_,_,_,_,_,_,_,_,_,_,_,_,rfl⟩
   .rintro j S H' hj ⟨hx,U,P,Q,W,r,O,t,u,w,x,y,z,A,D,F,I,J,K,rfl⟩
    exact⟨_,aM,Wr⟩
   .clear p U P Q
    rintro j S H1 hj ⟨p,U,P,Q,W,r,O,t,u,w,x,y,z,A,D,F,I,J,K,rfl⟩;obtain⟨bb,o,sp,B1,xs,e,gx,S0,X1⟩:=eS u1 byO;cases e;have gx:=p.get gx;have x1:=S0 (n-j) byO;have r1:((n:Int)-(j:Int))=((n-j:Nat):Int):=byO;have a0:(tab l1 R.C).getD j 0=R.C j:=fe byO;have w1:=uk j λi=>R.C i*co s (n-i);have hl:=p.1;clear S0 hd c a hR s0 w0;refine aA ?_;refine ay ?_;refine aS (mulR hg (ha.mono p) (R.C j)<|co s<|n-j) ?_;rintro v H2 ⟨q,rfl⟩;have U:=q.get U;have P:=q.get P;have Q:=q.get Q;have q:=p.trans q;refine bV ?_;refine aB (addR (sm j λi=>R.C i*co s (n-i))<|R.C j*co s (n-j)) ?_;rintro v H3 ⟨M,rfl⟩;have U:=M.get U;have P:=M.get P;have Q:=M.get Q;have M:=q.trans M;clear a0 r1;refine aA ?_;exact⟨M,U,P,Q,_,_,_,_,_,_,_,_,_,_,_,_,_,_,_,by rw[w1];first|rfl|(simp only[ap₀,Int.natCast_one];rfl)|simp only[ap₀,Int.natCast_one]⟩
   .rintro S H1 ⟨p,U,P,Q,W,r,O,t,u,w,x,y,z,A,D,F,I,J,K,rfl⟩
    exact⟨p,U,P,Q,_,_,_,_,_,_,_,_,_,_,_,_,_,_,_,_,rfl,rfl⟩
  clear p U P Q;rintro S H1 ⟨p,U,P,Q,j,W,r,O,t,u,w,x,y,z,A,D,F,I,J,K,rfl,rfl⟩;rw[hd];generalize hD:cv R.C (co s) n=d at *;have G1:=d.lt;clear hd;(try simp only[aC]);refine aK ?_ ?_<;>intro h
  .have r0:d=0:=fR Ws
   clear h;rw[if_pos r0]at c a;refine aA ?_;exact⟨p,U,Z,b2,b0,by rw[a,c,s0];exact P,by rw[a,c,w0];exact Q,_,_,_,_,_,_,_,_,_,_,_,_,_,_,_,_,_,_,by rw[a,c,s0,w0];first|rfl|(simp only[ap₀,Int.natCast_one];rfl)|simp only[ap₀,Int.natCast_one]⟩
  have r0:d≠0:=λe=>by rw[e,nK]at h;simp at h
  clear h;rw[if_neg r0]at c a;have hl:=p.1;refine bV ?_;refine aS (SL hg (ha.mono p) d R.b o1) ?_;rintro v H2 ⟨q,rfl⟩;have U:=q.get U;have P:=q.get P;have Q:=q.get Q;have q:=p.trans q;have A1:=q.1;have a1:=bO (sp:=none) P<|aJ l1 R.C;have e1:=bO (sp:=none) Q<|aJ l2 R.B;refine bV ?_;refine aB (DU byO hg (ha.mono q) a1 e1 Xc Xc R.m byO<|d*inv R.b) ?_;rintro v H3 ⟨M,b3,F1,rfl,f3⟩;have U:=M.get U;have P:=M.get P;have Q:=M.get Q;have M:=q.trans M;have c0:oD (tab l1 R.C) (tab l2 R.B) R.m (d*inv R.b)=tab (max l1<|l2+R.m) λi=>R.C i-d*inv R.b*sh R.m R.B i:=by
   unfold oD;rw[aJ,aJ];refine ag λk hk=>?_;rw[dm];congr 1
   .split
    .rfl
    .exact(H0 k byO).symm
   .congr 1
    unfold sh;split
    .rw[dm]
     split
     .rfl
     .exact(h1 _ byO).symm
    .rfl
  rw[c0,aJ];rw[c0]at f3;clear c0 a1 e1;refine aA ?_;have p1:((n+1-R.L:Nat):Int)=(n:Int)+1-(R.L:Nat):=byO;by_cases hc:2*R.L<=n
  .rw[if_pos hc]at c a
   refine aK ?_ ?_<;>intro h
   .clear h
    refine aA ?_;exact⟨M,U,b3,Z,⟨byO,b0.1⟩,X9,by rw[a,c];exact P,_,_,_,_,_,_,_,_,_,_,_,_,_,_,_,_,_,_,by rw[a,c];simp only[p1,ap₀,Int.natCast_one];rfl⟩
   .simp at h;omega
  .rw[if_neg hc]at c a
   refine aK ?_ ?_<;>intro h
   .simp at h;omega
   .clear h
    refine aA ?_;exact⟨M,U,b3,b2,⟨byO,b0.2⟩,X9,by rw[a,c];exact Q,_,_,_,_,_,_,_,_,_,_,_,_,_,_,_,_,_,_,by rw[a,c];simp only[ap₀,Int.natCast_one];rfl⟩
 .clear g0 g1 g2 y0
  rintro S H1 ⟨p,U,Z,b2,b0,P,Q,W,z9,X,Y,r,O,t,u,w,x,y,z,A,D,F,I,J,K,rfl⟩;have N:=iy (co s) s.length;obtain⟨T0,X0,j0⟩:=oQ (co s) s.length;obtain⟨H0,h1,o0⟩:=qA (co s) s.length;have Z0:=N.gen.one;have l0:xl s=trim (tab (bml (co s) s.length).1 (Reg.run (co s) s.length).C):=rfl;generalize (Reg.run (co s) s.length).C=C at *;generalize (bml (co s) s.length).1=l1 at *;have V:=aJ l1 C;have e0:(tab l1 C).length<=l1/\l1<=(tab l1 C).length:=byO;clear N V Q;refine aA ?_;refine aj (λm S H'=>H1=H'/\∃(e:Nat) (W z1 z2 z5 z6 z7 z8 z9 X Y r t u k1 m1 w x y z A D F I J K:Value),1<=e/\e<=l1/\m=e/\(∀i,e<=i->co (tab l1 C) i=0)/\S=[W,z1,z2,.slice none 0 0,.slice (some ⟨Z,0,none⟩) l1 l1,z5,z6,z7,z8,z9,X,Y,r,.int .i64 e,t,u,k1,m1,w,x,y,z,A,D,F,I,J,K]) l1 ?_ ?_
  .exact⟨rfl,l1,_,_,_,_,_,_,_,_,_,_,_,_,_,_,_,_,_,_,_,_,_,_,_,_,_,o0,Nat.le_refl _,rfl,λi hi=>by rw[dm,if_neg byO],rfl⟩
  rintro m S H' ⟨rfl,e,W,z1,z2,z5,z6,z7,z8,z9,X,Y,r,t,u,k1,m1,w,x,y,z,A,D,F,I,J,K,K1,q1,rfl,j1,rfl⟩;have Y0:((m:Int)-1)=((m-1:Nat):Int):=byO;have a0:(tab l1 C).getD (m-1) 0=C (m-1):=fe byO;(try simp only[aC]);refine aK ?_ ?_<;>intro h
  .have hz:C (m-1)=0:=fR Ws
   clear h;have S1:2<=m:=by
    apply Decidable.byContradiction;intro hc;rw[show m-1=0 by omega,Z0]at hz;exact jq hz
   clear Y0 a0;refine aA ?_;simp only[bJ];refine⟨m-1,byO,We,m-1,_,_,_,_,_,_,_,_,_,_,_,_,_,_,_,_,_,_,_,_,_,_,_,_,_,byO,byO,rfl,λi hi=>?_,by rw[show((m-1:Nat):Int)=(m:Int)-1 by omega]⟩;by_cases e:i=m-1
   .rw[e,dm,if_pos byO,hz]
   .exact j1 i byO
  .have hz:C (m-1)≠0:=λe=>by rw[e,nK]at h;simp at h
   clear h Y0 a0;have x0:xl s=(tab l1 C).take m:=by
    rw[l0,<-xC (n:=m) Xc j1];have:=xB (l:=tab l1 C) (n:=m-1) Xc (by rw[dm,if_pos byO];exact hz);rwa [show m-1+1=m by omega]at this
   clear l0;refine aA ?_;refine aL ?_;refine⟨p,?_,NewV.mk b0.1⟩;rw[x0];have h0:((tab l1 C).take m).length=m:=by rw[List.length_take,aJ];omega
   refine .inr ⟨Z,0,none,l1,_,?_,P,?_,?_,.inl rfl,?_⟩
   .rw[h0];rfl
   .rw[h0,List.drop_zero]
    simp[elL,List.map_take]
   .rw[h0,cX,aJ];omega
   .rw[h0];exact q1
end
def E6{x:Nat}(h:x≠0):br x=br (x/2)+1:=by
 by_cases a:x=1
 .subst a;rfl
 have:=pL (k:=1) (x:=x) byO;simp at this;omega
open XGd
def pX{p:Int}(g:p<=9223372036854775807):Ev cp lo 170 [.int .i64 p] H λv H'=>H'=H/\v=.int .i64 ((br p.toNat:Nat)-1):=by
 by_cases b:p<=0
 .apply stG rfl rfl;unfold Fz;simp[kB,aC]
  refine aA ?_;apply aj (λm S H'=>H=H'/\S=[.int .i64 p,.int .i64 0,.int .i64<|-1]) 0 ⟨rfl,rfl⟩;rintro m S H' ⟨rfl,rfl⟩;(try simp[aC]);refine aK ?_ ?_<;>intro h
  .simp at h;omega
  refine aA ?_;refine aL ?_;refine⟨rfl,?_⟩;rw[show p.toNat=0 by omega,qR];rfl
 obtain⟨n,rfl⟩:=Int.eq_ofNat_of_zero_le (show 0<=p by omega);have f:=eu (show n<2^63 by omega);rw[Int.toNat_natCast];apply stG rfl rfl;unfold Fz;simp[kB,aC];refine aA ?_;apply aj (λm S H'=>H=H'/\∃x:Nat,x<=n/\m=x/\br x<=br n/\S=[.int .i64 x,.int .i64 0,.int .i64<|(br n:Nat)-1-(br x:Nat)]) n
 .exact⟨rfl,n,Nat.le_refl _,rfl,Nat.le_refl _,by rw[show((br n:Nat):Int)-1-(br n:Nat)=-1 by omega]⟩
 rintro m S H' ⟨rfl,x,i,rfl,c,rfl⟩;(try simp[aC]);refine aK ?_ ?_<;>intro h
 .have a:m≠0:=Ws
  have e:=E6 a;have d:(m:Int).tdiv 2=((m/2:Nat):Int):=by rw[Int.tdiv_eq_ediv_of_nonneg byO];rfl
  refine aA ?_;simp only[bJ];exact⟨m/2,byO,We,m/2,byO,rfl,byO,by rw[show((br n:Nat):Int)-1-(br (m/2):Nat)=(br n:Nat)-1-(br (m/2)+1:Nat)+1 by omega]⟩
 .have a:m=0:=Ws
  subst a;rw[qR];refine aA ?_;refine aL ?_;exact⟨rfl,XT⟩
def rr{x k:Nat}:x/2^k%2=1↔x.testBit k=true:=by rw[Nat.testBit_eq_decide_div_mod_eq];simp
def Eh{x k:Nat}(h:x<2^(k+1))(b:¬ x/2^k%2=1):x<2^k:=by
 apply Decidable.byContradiction;intro d;have a:x≠0:=by have:0<2^k:=Nat.pow_pos byO;omega
 have c:=mj byO h;have:=lV a;rw[c]at this;exact b<|rr.2 this
def OI{p q:Nat}(B:p<2^62)(K:q<2^62)(c:q≠0):Ev cp lo 129 [.int .i64 p,.int .i64 q] H λv H'=>H'=H/\v=.int .i64 (rm p q):=by
 have r:=eB c;have A:=eu K;have g:=eu B;have y:br q<=q.log2+1/\q.log2+1<=br q:=byO;have t:p<2^br p:=by
  by_cases h:p=0
  .rw[h];exact Nat.pow_pos byO
  .rw[eB h];exact dM p
 clear r;apply stG rfl rfl;unfold Mi;simp only[kB,aC];refine aA ?_;refine ay ?_;apply aB (pX (p:=(q:Int)) byO);rintro v M ⟨rfl,rfl⟩;rw[Int.toNat_natCast];refine aA ?_;refine ay ?_;apply aB (pX (p:=(p:Int)) byO);rintro v F ⟨rfl,rfl⟩;rw[Int.toNat_natCast];refine aA ?_;apply aj (λm S H'=>F=H'/\∃(x j:Nat) (C D:Value),x<2^62/\j<=62/\x<2^j/\m=j/\rm x q=rm p q/\S=[.int .i64 x,.int .i64 q,.int .i64 0,.int .i64<|(br q:Nat)-1,.int .i64<|(j:Nat)-1,C,D]) (br p)
 .exact⟨rfl,p,br p,_,_,B,g,t,rfl,rfl,rfl⟩
 rintro m S H' ⟨rfl,x,j,C,D,L,V,f,rfl,d,rfl⟩;(try simp only[aC]);refine aK ?_ ?_<;>intro h
 .have I:br q<=m:=Ws
  clear h;obtain⟨k,rfl⟩:∃k,m=k+1:=⟨m-1,byO⟩;have R:(((k+1:Nat):Int)-1)=(k:Int):=byO;have U:(k:Int)-((br q:Nat)-1)=((k-q.log2:Nat):Int):=byO;have N:=nh x k .i64 (by show k<=64;omega);have O:=sU (b:=x/2^k) (by
   have:=Nat.div_le_self x<|2^k;omega)
  have u:q <<< (k-q.log2)<2^(q.log2+1+(k-q.log2)):=JW<|dM q;have J:2^(q.log2+1+(k-q.log2))<=2^62:=Nat.pow_le_pow_right byO byO;have i:=u;rw[Nat.shiftLeft_eq]at i;have P:=lh (a:=q) (k:=k-q.log2) byO byO;have Q:=jT (a:=x) (b:=q <<< (k-q.log2)) byO byO;refine aK ?_ ?_<;>intro h
  .have n:x/2^k%2=1:=by have G:=of_decide_eq_true h;generalize x/2^k%2=z at *;omega
   clear h;have w:x≠0:=by rintro rfl;simp at n
   have o:2^k<=x:=Nat.ge_two_pow_of_testBit<|rr.1 n;have l:=mj o f;have e:=Bf c w byO;rw[l]at e;clear l;refine aA ?_;simp only[bJ];refine⟨k,byO,We,x ^^^ q <<< (k-q.log2),k,_,_,by
    have:2^k<=2^62:=Nat.pow_le_pow_right byO byO;omega,byO,e,rfl,by rw[<-d,<-jh,Bi c],rfl⟩
  .have n:¬ x/2^k%2=1:=by have G:=of_decide_eq_false h;generalize x/2^k%2=z at *;omega
   clear h;refine aA ?_;simp only[bJ];exact⟨k,byO,We,x,k,_,_,L,byO,Eh f n,rfl,d,rfl⟩
 .have I:m<br q:=Ws
  clear h;have s:rm x q=x:=kI c<|bd₀ f<|Nat.pow_le_pow_right byO byO;rw[s]at d;refine aA ?_;refine aL ?_;exact⟨rfl,by rw[<-d];rfl⟩
def Qn{n:Nat}(w:n<=4096)(s:2<=n):Ev cp lo 172 [.int .i64 n] H λv H'=>H'=H/\∃b,v=.bool b/\(b=true↔PrN n):=by
 apply stG rfl rfl;unfold NI;simp only[kB,aC];refine aA ?_;apply aj (λm S H'=>∃(d:Nat),2<=d/\d<=n+2/\m=n+3-d/\H=H'/\(∀e,2<=e->e<d->e*e<=n->n%e≠0)/\S=[.int .i64 n,.bool false,.int .i64 d]) (n+1)
 .exact⟨2,byO,byO,byO,rfl,λe g l=>byO,rfl⟩
 rintro m S H' ⟨d,l,r,rfl,rfl,f,rfl⟩;have u:=xy (a:=(d:Int)) (b:=(d:Int)) (A:=5000) (B:=5000) byO byO byO byO byO;(try simp only[aC]);refine aK ?_ ?_<;>intro h
 .have i:d*d<=n:=Ws
  have p:d<=n:=Nat.le_trans (Nat.le_mul_of_pos_left d byO) i;have c:(n:Int).tmod (d:Int)=((n%d:Nat):Int):=Xz
  refine aK ?_ ?_<;>intro h
  .have k:n%d=0:=Ws
   refine aA ?_;refine aL ?_;exact⟨rfl,false,rfl,by simp;exact λt=>t d l i k⟩
  .have k:n%d≠0:=Ws
   refine aA ?_;simp only[bJ];refine⟨n+3-(d+1),byO,d+1,byO,byO,rfl,We,λe g j=>?_,ncM⟩;by_cases o:e=d
   .subst o;exact λ_=>k
   .exact f e g byO
 .have i:¬ d*d<=n:=Ws
  refine aA ?_;refine aL ?_;refine⟨rfl,true,by simp[aR];omega,?_⟩;simp[true_iff];intro e g j;refine f e g ?_ j;apply Decidable.byContradiction;intro q;exact i<|Nat.le_trans (Nat.mul_le_mul (show d<=e by omega) (show d<=e by omega)) j
end Go.Proofs.YtgiojnobcjnibaaGreatDoor
