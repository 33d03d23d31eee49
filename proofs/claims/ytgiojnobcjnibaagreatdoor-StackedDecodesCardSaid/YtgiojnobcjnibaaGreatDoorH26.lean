/- Lemmas. -/
import Derived.Test.YtgiojnobcjnibaaGreatDoorH25
set_option linter.all false
set_option maxRecDepth 20000
namespace Go.Proofs.YtgiojnobcjnibaaGreatDoor
open Go.Abs
section
variable{H:Heap}
def jY:(Value.agg ⟨tabV⟩).cells.toList=tabV:=rfl
def RJ{k s d w:Nat}(b:k<8)(f:s<18)(a:d<9)(g:w<=s):tabV[(k+1)*162+(s-w)*9+rsN k d w]?=some (.int .i64 ((bhd k s d w:Nat):Int)):=by have e:=oc (k:=k) (c:=d) (w:=w) a;have:=(JK (k:=k+1) byO).2 (9*(s-w)+rsN k d w) byO;grind[bhd]
def I9{k d w:Nat}(b:k<8)(a:d<9)(e:w<=6):(((d:Nat):Int)+9-((ptN k w:Nat):Int)).tmod 9=((rsN k d w:Nat):Int):=by
 grind[ptN,OB]
def yI{k w:Nat}(a:w<=6):ptN k w<=9:=XA
def zY(l:XI):(fM l).length=l.length:=by simp[fM]
def wsL(l:XI)(i:Nat):Nat:=(l.getD i 0).toNat
def Okw(l:XI)(k:Nat):Prop:=∀i,i<k->1<=l.getD i 0/\l.getD i 0<=6
instance (l:XI)(k:Nat):Decidable<|Okw l k:=by unfold Okw;infer_instance
def F6(l:XI):Value:=
 if l.length≠8 then ya 0 0 7
 else if ¬ Okw l 8 then ya 0 0 3
 else if pS (wsL l) 8≠17\/clu (wsL l)%3≠0 then ya 0 0 18
 else if 928<nA (wsL l) (clu<|wsL l) 8 then ya 0 0 18
 else ya (clu<|wsL l) (nA (wsL l) (clu<|wsL l) 8) 0
def BZ{l:XI}{i:Nat}(h:Okw l 8)(a:i<8):l.getD i 0=((wsL l i:Nat):Int)/\1<=wsL l i/\wsL l i<=6:=by have:=h i a;grind[wsL]
def uO{l:XI}(h:Okw l 8):∀k,k<=8->pS (wsL l) k<=6*k
 | 0,_=>Nat.le_refl _
 | k+1,c=>by
  have a:=uO h k byO;have b:=(BZ h (i:=k) byO).2.2;grind[pS]
open XKTf
def MU{lo b:Nat}{v:Value}{l:XI}(hg:H.get b=some tabV)(hv:SlI H v l):Ev cp lo 27 [.pointer<|some ⟨b,0,none⟩,v] H λr H'=>H'=H/\r=F6 l:=by
 have h0:=hv;obtain⟨ad,c0,rfl⟩:=hv.len;unfold F6;refine stG rfl rfl ?_;unfold R8;simp only[kB,aC];refine aF ?_;refine eD ?_ ?_<;>intro h
 .have e:l.length≠8:=Ws
  clear h;rw[if_pos e];refine aF ?_;refine bD ?_;exact⟨rfl,rfl⟩
 have e:l.length=8:=Ws
 clear h;rw[if_neg λh=>h e];obtain⟨xb,Q,I,xc,xs,e1,g1,R,l1⟩:=h0.els 0 byO;cases e1;rw[e]at R;rw[e];clear hv h0;refine aF ?_;refine aP (λk S H'=>H=H'/\Okw l k/\∃(z:Nat->Value),S=[.pointer<|some ⟨b,0,none⟩,.slice (some ⟨xb,Q,I⟩) 8 c0,z 2,.int .i64 0,.int .i64 0,.int .i64 ((pS (wsL l) k:Nat):Int),z 6,z 7,z 8,z 9,z 10,.slice (some ⟨xb,Q,I⟩) 8 c0,.int .i64 8,.int .i64 k,z 14,z 15,z 16,z 17,z 18,z 19]) 8 ?_ ?_ ?_ ?_
 .exact⟨rfl,λi J=>byO,aH rfl⟩
 .rintro k S H' C ⟨rfl,p,z,rfl⟩
  exact⟨_,bR,Wr⟩
 .rintro k S H' C ⟨rfl,p,z,rfl⟩
  have X:=R k C;have w0:pS (wsL l) k<=6*k:=by
   clear R;have:∀j,j<=k->pS (wsL l) j<=6*j:=by
    intro j
    induction j with
    | zero=>intro _;exact Nat.le_refl _
    | succ j ih=>
     intro hj;have h1:=ih byO;have h2:=(p j byO).2;simp only[pS];have h3:wsL l j<=6:=by unfold wsL;omega
     omega
   exact this k<|Nat.le_refl _
  have g:pS (wsL l) (k+1)=pS (wsL l) k+wsL l k:=rfl;have G:wsL l k=(l.getD k 0).toNat:=rfl;clear R;obtain⟨x,hx⟩:∃x,x=l.getD k 0:=⟨_,rfl⟩;rw[<-hx]at X G;generalize wsL l k=w at *;obtain⟨s1,F⟩:∃x,x=pS (wsL l) (k+1):=⟨_,rfl⟩;rw[<-F]at g;obtain⟨s0,P⟩:∃x,x=pS (wsL l) k:=⟨_,rfl⟩;rw[<-P]at g w0 ⊢;replace g:=Wa g;replace G:=Wa G;replace hx:=Wa hx;replace F:=Wa F;replace P:=Wa P;replace p:=Wa p;refine aF ?_;refine eD ?_ ?_<;>intro h
  .have A:¬ Okw l 8:=λq=>by
    have:=q k C;rw[<-Wb hx]at this;simp only[ar₀,af₀]at h;omega
   clear h;refine aF ?_;refine bD ?_;rw[if_pos A];exact⟨rfl,rfl⟩
  have j0:1<=x/\x<=6:=by
   simp only[Bool.or_eq_false_iff,ai₀]at h;omega
  clear h;have X0:((s0:Nat):Int)+x=((s1:Nat):Int):=by
   rw[Wb g];have:=Wb G;omega
  obtain⟨x1,x6⟩:=j0;refine aF ?_;refine⟨We,λi J=>?_,aH (by rw[<-Wb F];first|rfl|(simp only[ap₀,Int.natCast_one];rfl))⟩;by_cases q:i=k
  .subst q;rw[<-Wb hx];exact⟨x1,x6⟩
  .exact Wb p i byO
 rintro S H' ⟨rfl,p,z,rfl⟩;rw[if_neg λq=>q p];have N:=λi (J:i<8)=>BZ p J;have y0:=uO p 8<|Nat.le_refl _;have U:∀i,i<8->xs[Q+i]?=some (.int .i64 ((wsL l i:Nat):Int)):=λi J=>by rw[R i J,(N i J).1]
 have o:∀i,i<8->1<=wsL l i/\wsL l i<=6:=λi J=>(N i J).2;clear R N p;generalize wsL l=f at *;have o0:clu f<9:=Nat.mod_lt _ Wd;have f0:xs[Q]?=some (.int .i64 ((f 0:Nat):Int)):=U 0 byO;have f2:=U 2 byO;have f4:=U 4 byO;have f6:=U 6 byO;have b0:=o 0 byO;have b2:=o 2 byO;have b4:=o 4 byO;have b6:=o 6 byO;have q0:(((f 0:Nat):Int)-(f 2:Nat)+(f 4:Nat)-(f 6:Nat)+18).tmod 9=((clu f:Nat):Int):=by
  rw[show((f 0:Nat):Int)-(f 2:Nat)+(f 4:Nat)-(f 6:Nat)+18=((f 0+18-f 2+f 4-f 6:Nat):Int) by omega];rfl
 have l0:((clu f:Nat):Int).tmod 3=((clu f%3:Nat):Int):=rfl;have O:False\/∀i,i<8->xs[Q+i]?=some (.int .i64 ((f i:Nat):Int)):=.inr U;clear U;replace o:False\/∀i,i<8->1<=f i/\f i<=6:=.inr o;refine aF ?_;refine eD ?_ ?_<;>intro h
 .have A:pS f 8≠17\/clu f%3≠0:=by
   simp only[ar₀,Bool.not_eq_true',af₀,ai₀]at h;omega
  clear h;rw[if_pos A];refine aF ?_;refine bD ?_;exact⟨rfl,rfl⟩
 have t:¬ (pS f 8≠17\/clu f%3≠0):=by
  simp only[Bool.or_eq_false_iff,Bool.not_eq_false',af₀,ai₀]at h;omega
 clear h;rw[if_neg t];have B:pS f 8=17:=byO;have D:=If f (clu f) λk C=>(Wb o k C).2;have M:=GQ f o0;rw[B];clear t q0 l0 f0 f2 f4 f6 b0 b2 b4 b6 y0;replace B:=Wa B;generalize clu f=c at *;refine aF ?_;refine aP (λk S H'=>H=H'/\∃(z:Nat->Value),S=[.pointer<|some ⟨b,0,none⟩,z 1,.int .i64 c,.int .i64 ((nA f c k:Nat):Int),.int .i64 0,.int .i64 ((17-pS f k:Nat):Int),z 6,.int .i64 ((cA f c k:Nat):Int),z 8,z 9,z 10,z 11,z 12,z 13,.slice (some ⟨xb,Q,I⟩) 8 c0,.int .i64 8,.int .i64 k,z 17,z 18,z 19]) 8 ?_ ?_ ?_ ?_
 .exact⟨rfl,aH rfl⟩
 .rintro k S H' C ⟨rfl,z,rfl⟩
  exact⟨_,bR,Wr⟩
 .rintro k S H' C ⟨rfl,z,rfl⟩
  have X:=Wb O k C;obtain⟨w1,w6⟩:=Wb o k C;have S0:=D k byO;have r0:=D (k+1) byO;have Y:=M k;have e0:pS f k+f k<=17:=by
   have:=Im (ws:=f) (a:=k+1) (b:=8) byO;have e1:pS f (k+1)=pS f k+f k:=rfl;rw[Wb B]at this;omega
  have V:cA f c (k+1)=rsN k (cA f c k) (f k):=rfl;have L:nA f c (k+1)=nA f c k+cE k (17-pS f k) (cA f c k) (f k-1):=rfl;have W:((17-pS f (k+1):Nat):Int)=((17-pS f k:Nat):Int)-((f k:Nat):Int):=by
   have e1:pS f (k+1)=pS f k+f k:=rfl;omega
  rw[V,L,W];rw[L]at r0;clear D M O o B V L W;generalize cA f c k=d at *;generalize hs:17-pS f k=s at *;have a0:s<18:=byO;have Z0:f k<=s:=byO;have Z:=JK (k:=k+1) byO;generalize nA f c k=n at *;generalize f k=w at *;clear hs e0;refine aF ?_;refine aP (λm S H'=>H=H'/\∃(z:Nat->Value),S=[.pointer<|some ⟨b,0,none⟩,z 1,.int .i64 c,.int .i64 ((n+cE k s d m:Nat):Int),.int .i64 0,.int .i64 s,z 6,.int .i64 d,.int .i64 k,.int .i64 w,.int .i64 ((m+1:Nat):Int),z 11,z 12,z 13,.slice (some ⟨xb,Q,I⟩) 8 c0,.int .i64 8,.int .i64 k,z 17,z 18,z 19]) (w-1) ?_ ?_ ?_ ?_
  .exact⟨rfl,aH rfl⟩
  .rintro m S H' hm ⟨rfl,z,rfl⟩
   exact⟨_,bR,Wr⟩
  .rintro m S H' hm ⟨rfl,z,rfl⟩
   have hb:=(CM (lo:=lo) hg Z C a0 Y (show m+1<=6 by omega) byO).sub y6;have H0:=sV k s d<|m+1;have x0:=nm k s d m;have z0:cE k s d (m+1)=cE k s d m+bhd k s d (m+1):=rfl;have g0:((n+cE k s d m:Nat):Int)+((bhd k s d (m+1):Nat):Int)=((n+cE k s d (m+1):Nat):Int):=byO;obtain⟨y,hy⟩:∃y,y=n+cE k s d (m+1):=⟨_,rfl⟩;rw[<-hy]at g0;have a1:y<=100000000:=byO;have Y0:n+cE k s d m<=100000000:=byO;clear z0 x0;replace hy:=Wa hy;generalize n+cE k s d m=u at *;generalize bhd k s d (m+1)=bv at *;refine aF ?_;refine fC ?_;refine aB hb ?_;rintro r K ⟨rfl,rfl⟩;refine aF ?_;exact⟨We,aH (by rw[<-Wb hy];first|rfl|(simp only[ap₀,Int.natCast_one];rfl))⟩
  rintro S H' ⟨rfl,z,rfl⟩;have hr:=(OH (lo:=lo) (H:=H) (k:=k) C Y (show w<=6 by omega)).sub y6;refine aF ?_;refine fC ?_;refine aB hr ?_;rintro r K ⟨rfl,rfl⟩;refine aF ?_;exact⟨We,aH ncM⟩
 rintro S H' ⟨rfl,z,rfl⟩;have T0:=D 8 byO;clear D M O o B;generalize nA f c 8=n at *;refine aF ?_;refine eD ?_ ?_<;>intro h
 .have A:928<n:=Ws
  clear h;rw[if_pos A];refine aF ?_;refine bD ?_;exact⟨rfl,rfl⟩
 have t:¬ 928<n:=Ws
 clear h;rw[if_neg t];refine aF ?_;refine bD ?_;exact⟨rfl,rfl⟩
def rA(f:Nat->Nat):Nat->Nat
 | 0=>0
 | k+1=>(rA f k+ptN k (f k))%9
def rA8{f:Nat->Nat}(h:∀k,k<8->1<=f k/\f k<=6):rA f 8=clu f:=by have b:=h 2 byO;have d:=h 6 byO;simp[rA,ptN,clu];omega
def OE(f:Nat->Nat):∀k,rA f k<9
 | 0=>by show 0<9;decide
 | k+1=>Nat.mod_lt _ Wd
def L9{lo:Nat}{v:Value}{l:XI}(y0:lo<=H.length)(hv:SlI H v l)(hl:l.length=8)(G:Okw l 8) :
  Ev cp lo 28 [.agg ⟨tabV⟩,v] H λr H'=>Ext H H'/\r=if pS (wsL l) 8=17 then .tuple #[.int .i64 ((clu (wsL l):Nat):Int),.int .i64 ((nA (wsL l) (clu<|wsL l) 8:Nat):Int)] else .tuple #[.int .i64<|-1,.int .i64 0]:=by
 have x0:=jY;have z0:=kT;have j:=λ{k s d w:Nat} (g:k<8) (hs:s<18) (hd:d<9) (hw:w<=s)=>RJ g hs hd hw;generalize tabV=T at *;have Z:=hv.mono<|Ext.push H<|some T;obtain⟨xb,xo,J,xc,xs,L,g1,f1,l1⟩:=Z.els 0 byO;subst L;have F:=λi (U:i<8)=>BZ G U;have p:=uO G;have M:∀i,i<8->xs[xo+i]?=some (.int .i64 ((wsL l i:Nat):Int)):=λi U=>by rw[f1 i byO,(F i U).1]
 have e:∀i,i<8->1<=wsL l i/\wsL l i<=6:=λi U=>(F i U).2;rw[hl];clear f1 F G Z hv hl l1;generalize wsL l=f at *;have A:=rA8 e;have B:=OE f;have R:clu f<9:=Nat.mod_lt _ Wd;replace M:False\/∀i,i<8->xs[xo+i]?=some (.int .i64 ((f i:Nat):Int)):=.inr M;replace e:False\/∀i,i<8->1<=f i/\f i<=6:=.inr e;replace A:=Wa A;apply stG rfl rfl;unfold O3;simp only[kB,aC];refine aF ?_;have g0:Heap.get (H++[some T]) H.length=some T:=aX _ _;have a0:=Ext.push H<|some T;generalize H++[some T]=K at *;apply aP (λk S H'=>K=H'/\∃(z:Nat->Value),S=[z 0,.slice (some ⟨xb,xo,J⟩) 8 xc,.pointer<|some ⟨H.length,0,none⟩,z 3,z 4,.int .i64 ((pS f k:Nat):Int),.int .i64 ((rA f k:Nat):Int),.int .i64 k,z 8,z 9,z 10,z 11,z 12,z 13,z 14,z 15,z 16,z 17,z 18,z 19]) 8
 .exact⟨rfl,aH rfl⟩
 .rintro k S H' g ⟨rfl,z,rfl⟩
  exact⟨_,bR,Wr⟩
 .rintro k S H' g ⟨rfl,z,rfl⟩
  have b0:=Wb M k g;obtain⟨w1,w6⟩:=Wb e k g;have Y0:=p k byO;have X0:=B k;have L:pS f (k+1)=pS f k+f k:=rfl;have e2:rA f (k+1)=(rA f k+ptN k (f k))%9:=rfl;have V:=yI (k:=k) w6;have hm:(((rA f k:Nat):Int)+((ptN k (f k):Nat):Int)).tmod 9=(((rA f k+ptN k (f k))%9:Nat):Int):=by
   rw[<-ap₀];rfl
  have P:=(DL (lo:=lo) (H:=K) g w6).sub y6;rw[L,e2];clear L e2 p B R j;generalize rA f k=r0 at *;generalize (r0+ptN k (f k))%9=r1 at *;generalize pS f k=s0 at *;generalize f k=w at *;(try simp only[aC]);refine eD ?_ ?_<;>intro h
  .simp at h;omega
  clear h;refine aF ?_;refine fC ?_;refine aB P ?_;rintro r K2 ⟨rfl,rfl⟩;refine aF ?_;exact⟨We,aH ncM⟩
 rintro S H' ⟨rfl,z,rfl⟩;have h0:=p 8 byO;(try simp only[aC]);refine eD ?_ ?_<;>intro h
 .have Q:¬ pS f 8=17:=Ws
  clear h;rw[if_neg Q];clear j B p;refine aF ?_;refine bD ?_;exact⟨a0,rfl⟩
 have o:pS f 8=17:=Ws
 clear h;rw[if_pos o,o,Wb A];have x:=If f (clu f) λk g=>(Wb e k g).2;have D:=GQ f R;clear h0 p B A;replace o:=Wa o;generalize clu f=c at *;refine aF ?_;refine aP (λk S H'=>K=H'/\∃(z:Nat->Value),S=[z 0,.slice (some ⟨xb,xo,J⟩) 8 xc,.pointer<|some ⟨H.length,0,none⟩,z 3,z 4,.int .i64 ((17-pS f k:Nat):Int),.int .i64 c,z 7,.int .i64 ((nA f c k:Nat):Int),.int .i64 ((cA f c k:Nat):Int),.int .i64 k,z 11,z 12,z 13,z 14,z 15,z 16,z 17,z 18,z 19]) 8 ?_ ?_ ?_ ?_
 .exact⟨rfl,aH rfl⟩
 .rintro k S H' g ⟨rfl,z,rfl⟩
  exact⟨_,bR,Wr⟩
 .rintro k S H' g ⟨rfl,z,rfl⟩
  have b0:=Wb M k g;obtain⟨w1,w6⟩:=Wb e k g;have S0:=x k byO;have e0:=x (k+1) byO;have t:=D k;have X:pS f k+f k<=17:=by
   have:=Im (ws:=f) (a:=k+1) (b:=8) byO;have L:pS f (k+1)=pS f k+f k:=rfl;rw[Wb o]at this;omega
  have N:cA f c (k+1)=rsN k (cA f c k) (f k):=rfl;have C:nA f c (k+1)=nA f c k+cE k (17-pS f k) (cA f c k) (f k-1):=rfl;have O:((17-pS f (k+1):Nat):Int)=((17-pS f k:Nat):Int)-((f k:Nat):Int):=by
   have L:pS f (k+1)=pS f k+f k:=rfl;omega
  rw[N,C,O];rw[C]at e0;clear x D M e o N C O;generalize cA f c k=d at *;generalize hs:17-pS f k=s at *;have W:s<18:=byO;have b1:f k<=s:=byO;generalize nA f c k=n at *;generalize f k=w at *;clear hs X;have I:False\/∀m,m+1<=s->T[(k+1)*162+(s-(m+1))*9+rsN k d (m+1)]?=some (.int .i64 ((bhd k s d (m+1):Nat):Int)):=.inr λm hm=>j g W t hm;clear j;refine aF ?_;refine aP (λm S H'=>K=H'/\∃(z:Nat->Value),S=[z 0,.slice (some ⟨xb,xo,J⟩) 8 xc,.pointer<|some ⟨H.length,0,none⟩,z 3,z 4,.int .i64 s,.int .i64 c,z 7,.int .i64 ((n+cE k s d m:Nat):Int),.int .i64 d,.int .i64 k,.int .i64 ((m+1:Nat):Int),z 12,z 13,z 14,z 15,z 16,z 17,z 18,z 19]) (w-1) ?_ ?_ ?_ ?_
  .exact⟨rfl,aH rfl⟩
  .rintro m S H' hm ⟨rfl,z,rfl⟩
   exact⟨_,bR,Wr⟩
  .rintro m S H' hm ⟨rfl,z,rfl⟩
   have Z0:=Wb I m byO;have c0:=I9 g t (show m+1<=6 by omega);have V:=yI (k:=k) (show m+1<=6 by omega);have T0:=oc (k:=k) (c:=d) (w:=m+1) t;have P:=(DL (lo:=lo) (H:=K) g (show m+1<=6 by omega)).sub y6;have o0:(((k:Nat):Int)+1).toNat=k+1:=byO;have q0:(((s:Nat):Int)-((m+1:Nat):Int)).toNat=s-(m+1):=byO;have H0:m+1<=s:=byO;have w0:=sV k s d<|m+1;have j0:=nm k s d m;have l0:cE k s d (m+1)=cE k s d m+bhd k s d (m+1):=rfl;have Y:((n+cE k s d m:Nat):Int)+((bhd k s d (m+1):Nat):Int)=((n+cE k s d (m+1):Nat):Int):=byO;obtain⟨y,hy⟩:∃y,y=n+cE k s d (m+1):=⟨_,rfl⟩;rw[<-hy]at Y;have h1:y<=100000000:=byO;have a1:n+cE k s d m<=100000000:=byO;clear l0 j0;replace hy:=Wa hy;generalize n+cE k s d m=u at *;generalize bhd k s d (m+1)=bv at *;generalize rsN k d (m+1)=q at *;refine aF ?_;refine fC ?_;refine dz P ?_;rintro r K2 ⟨rfl,rfl⟩;refine aF ?_;exact⟨We,aH (by rw[<-Wb hy];first|rfl|(simp only[ap₀,Int.natCast_one];rfl))⟩
  rintro S H' ⟨rfl,z,rfl⟩;have P:=(DL (lo:=lo) (H:=K) g (show w<=6 by omega)).sub y6;have c0:=I9 g t (show w<=6 by omega);have V:=yI (k:=k) (show w<=6 by omega);refine aF ?_;refine fC ?_;refine aB P ?_;rintro r K2 ⟨rfl,rfl⟩;refine aF ?_;exact⟨We,aH ncM⟩
 rintro S H' ⟨rfl,z,rfl⟩;clear x D M e o j;refine aF ?_;refine bD ?_;exact⟨a0,rfl⟩
def Qh{lo:Nat}{k n:Int}:Ev cp lo 29 [.int .i64 k,.int .i64 n] H λr H'=>H'=H/\r=.bool (decide<|(k=0\/k=3\/k=6)/\n<=928):=by apply stG rfl rfl;unfold R9;simp[kB,aC];refine aF ?_;refine bD ?_;refine⟨rfl,?_⟩;simp[aR,Value.bool.injEq];rw[Bool.eq_iff_iff];simp;omega
def wsR(d:Nat->Bool):Nat->XI
 | 0=>[]
 | k+1=>if k=0\/d k≠d (k-1) then wsR d k++[1] else(wsR d k).set ((wsR d k).length-1) ((wsR d k).getD ((wsR d k).length-1) 0+1)
theorem pq{d:Nat->Bool}{k:Nat}(h:k=0\/d k≠d (k-1)):wsR d (k+1)=wsR d k++[1]:=by show(if _ then _ else _)=_;rw[if_pos h]
theorem sR{d:Nat->Bool}{k:Nat}(h:¬ (k=0\/d k≠d (k-1))):wsR d (k+1)=(wsR d k).set ((wsR d k).length-1) ((wsR d k).getD ((wsR d k).length-1) 0+1):=by show(if _ then _ else _)=_;rw[if_neg h]
def sQ(d:Nat->Bool):∀k,(wsR d k).length<=k/\(0<k->0<(wsR d k).length)
 | 0=>⟨Nat.le_refl _,λh=>h⟩
 | k+1=>by
  have h:=sQ d k;grind[pq,sR]
def OT(d:Nat->Bool):∀k,∀x ∈ wsR d k,1<=x/\x<=k
 | 0,x,a=>by cases a
 | k+1,x,a=>by
  have h:=OT d k;grind[wsR,List.getElem_mem]
def rsO(d:Nat->Bool):Nat->XI×Int
 | 0=>([],0)
 | i+1=>if i+1=17\/d (i+1)≠d i then((rsO d i).1++[(rsO d i).2+1],0) else((rsO d i).1,(rsO d i).2+1)
theorem OK(d:Nat->Bool):∀i,i<17->wsR d (i+1)=(rsO d i).1++[(rsO d i).2+1]
 | 0,_=>pq<|.inl rfl
 | i+1,a=>by
  have h:=OK d i byO;by_cases c:d (i+1)≠d i
  .rw[pq<|.inr c,h]
   show _=(if _ then _ else _:XI×Int).1++[(if _ then _ else _:XI×Int).2+1];simp_all
  .rw[sR λq=>q.elim (λq=>by omega) c,h]
   show _=(if _ then _ else _:XI×Int).1++[(if _ then _ else _:XI×Int).2+1];grind
def Vd(d:Nat->Bool):(rsO d 17).1=wsR d 17:=by rw[OK d 16 Wd];rfl
def OJ(d:Nat->Bool):∀i,(rsO d i).1.length<=i/\0<=(rsO d i).2/\(rsO d i).2<=i
 | 0=>⟨Nat.le_refl _,Int.le_refl _,Int.le_refl _⟩
 | i+1=>by
  have h:=OJ d i;grind[rsO]
def wd(l:List Bool):XI:=wsR (λi=>l.getD i false) 17
def Dm(l:List Bool):Prop:=l.getD 0 false=true/\(wd l).length=8/\Okw (wd l) 8/\pS (wsL<|wd l) 8=17/\clu (wsL<|wd l)%3=0/\nA (wsL<|wd l) (clu<|wsL<|wd l) 8<=928
instance (l:List Bool):Decidable<|Dm l:=by unfold Dm;infer_instance
def rdP(l:List Bool):Option<|Nat×Nat:=if Dm l then some (clu<|wsL<|wd l,nA (wsL<|wd l) (clu<|wsL<|wd l) 8) else none
def Lt{l:List Bool}(h:Dm l):rdP l=some (clu<|wsL<|wd l,nA (wsL<|wd l) (clu<|wsL<|wd l) 8):=if_pos h
def sJ{l:List Bool}(h:¬ Dm l):rdP l=none:=if_neg h
def my{l:List Bool}{k v:Nat}(h:rdP l=some (k,v)):k<9/\k%3=0/\v<=928:=by
 unfold rdP at h;split at h
 next c=>
  cases h;exact⟨Nat.mod_lt _ Wd,c.2.2.2.2⟩
 .cases h
def RM{l:List Bool}(d:l.getD 0 false=true):(∃k v,rdP l=some (k,v)/\F6 (wd l)=ya k v 0)\/(∃e:Nat,rdP l=none/\e≠0/\F6 (wd l)=ya 0 0 e):=by
 unfold F6 rdP;by_cases c:Dm l
 .left
  rw[if_pos c];obtain⟨-,a,b,c3,c4,c5⟩:=c;grind
 .right
  rw[if_neg c];by_cases a:(wd l).length≠8
  .rw[if_pos a];grind
  rw[if_neg a];by_cases b:¬ Okw (wd l) 8
  .rw[if_pos b];grind
  rw[if_neg b];by_cases c3:pS (wsL<|wd l) 8≠17\/clu (wsL<|wd l)%3≠0
  .rw[if_pos c3];grind
  rw[if_neg c3];by_cases c4:928<nA (wsL<|wd l) (clu<|wsL<|wd l) 8
  .rw[if_pos c4];grind
  exact absurd ⟨d,Decidable.not_not.1 a,Decidable.not_not.1 b,byO,byO,byO⟩ c
end
section
variable{H:Heap}{lo:Nat}{v:Value}
def rdV:Option (Nat×Nat)->Value
 | none=>.tuple #[.int .i64 0,.int .i64 0,.bool false]
 | some (k,v)=>.tuple #[.int .i64 k,.int .i64 v,.bool true]
def Su{b:Nat}{l:XI}(h:Own lo 1 H v b<|l.map<|Value.int .i64)(g:0<l.length):v=.slice (some ⟨b,0,some 1⟩) l.length l.length/\lo<=b/\∃C,H.get b=some C/\C.length=l.length/\C[l.length-1]?=some (.int .i64<|l.getD (l.length-1) 0)/\∀y,Own lo 1 (H.set b<|some<|C.set (l.length-1)<|.int .i64 y) v b<|(l.set (l.length-1) y).map<|Value.int .i64:=by
 obtain⟨c,⟨_,a⟩|⟨n,f,a,d,e⟩⟩:=h
 .simp_all
 .rw[ay₀]at a
  obtain rfl:n=l.length:=byO;refine⟨d,c,_,e,ay₀ ..,?_,λy=>⟨c,.inr ⟨_,f,Wc,d,?_⟩⟩⟩
  all_goals grind[aE,Heap.get_lt,List.map_set]
open XCSb
def QR{lo b:Nat}{l:List Bool}(o0:lo<=H.length)(hg:H.get b=some tabV)(hv:SlB H v l)(hl:l.length=17):Ev cp lo 87 [.pointer<|some ⟨b,0,none⟩,v] H λr H'=>Ext H H'/\r=rdV (rdP l):=by
 obtain⟨xb,xo,e0,xc,xs,e1,g1,G,l1⟩:=hv.els false byO;subst e1;rw[hl]at G l1 ⊢;have f0:xs[xo]?=some (.bool<|l.getD 0 false):=G 0 byO;apply stG rfl rfl;unfold Ru;simp only[kB,aC];refine aF ?_;by_cases N:l.getD 0 false=true;rotate_left
 .have N:l.getD 0 false=false:=by simpa using N
  refine dw ?_;refine aF ?_;refine bD ?_;have:rdP l=none:=by unfold rdP;rw[if_neg λh=>by rw[h.1]at N;cases N]
  rw[this];exact⟨Ext.refl _,rfl⟩
 refine fO ?_;have d:=RM N;have o:=λk=>sQ (λi=>l.getD i false) k;have s:=λk=>OT (λi=>l.getD i false) k;have j:=λk=>@pq (λi=>l.getD i false) k;have n:=λk=>@sR (λi=>l.getD i false) k;have a0:wd l=wsR (λi=>l.getD i false) 17:=rfl;rw[a0]at d;clear a0;generalize wsR (λi=>l.getD i false)=W at *;have J:W 0=[]:=List.length_eq_zero_iff.1 (by have:=(o 0).1;omega);replace G:False\/∀i,i<17->xs[xo+i]?=some (.bool<|l.getD i false):=.inr G;replace o:=Wa o;replace s:=Wa s;replace j:=Wa j;replace n:=Wa n;replace J:=Wa J;replace d:=Wa d;clear f0 N;refine aF ?_;refine aP (λk S H'=>Ext H H'/\∃O q,H.length<=q/\Own lo 1 H' O q ((W k).map<|Value.int .i64)/\∃(z:Nat->Value),S=[.pointer<|some ⟨b,0,none⟩,.slice (some ⟨xb,xo,e0⟩) 17 xc,z 2,z 3,z 4,O,z 6,z 7,z 8,.slice (some ⟨xb,xo,e0⟩) 17 xc,.int .i64 17,.int .i64 k,z 12,z 13,z 14,z 15]) 17 ?_ ?_ ?_ ?_
 .exact⟨Ext.refl _,.slice none 0 0,H.length,Nat.le_refl _,by rw[Wb J];exact Own.nil o0,aH rfl⟩
 .rintro k S H' hk ⟨-,O,q,-,-,z,rfl⟩
  exact⟨_,bR,Wr⟩
 .rintro k S H' hk ⟨F,O,q,U,f,z,rfl⟩
  have y0:=F.1;have fk:=Wb G k hk;have s0:=F.get g1;have H0:=(Wb o k).1;have g:=(Wb o k).2;have y:=Wb s k;replace g:=Wa g;replace y:=Wa y;refine aF ?_;refine bu (t:=decide<|k=0\/l.getD k false≠l.getD (k-1) false) ?_ (λh=>?_) λh=>?_
  .by_cases p:k=0
   .have hd:decide (((k:Nat):Int)=0)=true:=decide_eq_true byO
    rw[decide_eq_true (show k=0\/_ from .inl p)];clear p;simp(disch:=try exact dO)only[evB,xtr,Nat.reduceAdd,Nat.reduceMul,Nat.reduceBEq,Int.reduceToNat,Int.reduceEq,Int.reduceNe, *];try rfl
   .have hd:decide (((k:Nat):Int)=0)=false:=decide_eq_false byO
    have f':=Wb G (k-1) byO;have ek:(((k:Nat):Int)-1).toNat=k-1:=byO;rw[show decide (k=0\/l.getD k false≠l.getD (k-1) false)=(l.getD k false != l.getD (k-1) false) by cases l.getD k false<;>cases l.getD (k-1) false<;>simp[p]];generalize l.getD k false=u at *;generalize l.getD (k-1) false=w at *;cases u<;>cases w<;>(simp(disch:=try exact dO)only[evB,xtr,Nat.reduceAdd,Nat.reduceMul,Nat.reduceBEq,Int.reduceToNat,Int.reduceEq,Int.reduceNe, *];rfl)
  .have c:=of_decide_eq_true h
   have hw:=Wb j k c;clear h c fk;refine aF ?_;refine fC ?_;refine jx (A:=H.length) (l:=W k) (m:=[0]) (λ_=>rfl) Wr U Wr (f.mono<|Ext.app _ _) (Sl.whole aI rfl) Wr ?_;rintro v' H6 q' V M R;have b0:=R.ext (F.trans<|Ext.app _ _) U;have z0:=b0.1;have I:(W k++[0]).length<=20/\0<(W k++[0]).length:=Wr
   have B:(W k++[0]).getD ((W k++[0]).length-1) 0=0:=Wc
   have Q:(W k++[0]).set ((W k++[0]).length-1) 1=W (k+1):=by rw[hw];simp
   clear hw f R;generalize W k++[0]=L at *;obtain⟨rfl,q0,C,l0,g0,D,a⟩:=Su M I.2;rw[B]at D;have a:=a 1;rw[Q]at a;replace a:=Wa a;have e1:(((L.length:Nat):Int)-1).toNat=L.length-1:=byO;obtain⟨I,P⟩:=I;clear B Q;refine aF ?_;exact⟨b0.set V,_,q',V,Wb a,aH ncM⟩
  .have c:=of_decide_eq_false h
   have hw:=Wb n k c;have p:0<k:=Nat.pos_of_ne_zero λq=>c<|.inl q;have P:=Wb g p;have j0:=Wb y ((W k).getD ((W k).length-1) 0) (by rw[au₀,bc₀ byO];exact List.getElem_mem _);clear h c fk;generalize h0:W k=L at *;obtain⟨rfl,q0,C,l0,g0,D,a⟩:=Su f P;generalize B:L.getD (L.length-1) 0=x at *;have a:=a<|x+1;rw[<-hw]at a;replace a:=Wa a;have e1:(((L.length:Nat):Int)-1).toNat=L.length-1:=byO;clear h0 hw B g y;obtain⟨w0,x0⟩:=j0;refine aF ?_;exact⟨F.set U,_,q,U,Wb a,aH ncM⟩
 rintro S H' ⟨F,O,q,U,f,z,rfl⟩;have Y:SlI H' O<|W 17:=Sl.ofOwn f;obtain⟨ao,co,rfl⟩:=Y.len;have Z:=MU (lo:=lo) (F.get hg) Y;clear f o s j n G;have d:=Wb d;generalize F6 (W 17)=r0 at *;refine iU ?_;refine aB Z ?_;rintro r K ⟨rfl,rfl⟩;clear Z;rcases d with ⟨k,v,X,rfl⟩|⟨e,X,he,rfl⟩
 .rw[X]
  clear X;unfold ya;refine aF ?_;refine bD ?_;exact⟨F,rfl⟩
 .rw[X]
  have hd:decide (((e:Nat):Int)=0)=false:=decide_eq_false byO;clear X he;unfold ya;refine aF ?_;refine bD ?_;exact⟨F,rfl⟩
def MW{l:List Bool}(D:lo<=H.length)(hv:SlB H v l)(Y:l.length=17):Ev cp lo 143 [v] H λr H'=>Ext H H'/\SlI H' r (if l.getD 0 false=true then wd l else[]):=by
 obtain⟨xb,J,K,xc,xs,N,P,o,l1⟩:=hv.els false byO;subst N;rw[Y]at o l1 ⊢;have O:xs[J]?=some (.bool<|l.getD 0 false):=o 0 byO;apply stG rfl rfl;unfold Mr;simp only[kB,aC];refine aF ?_;by_cases x:l.getD 0 false=true;rotate_left
 .rw[if_neg x]
  have x:l.getD 0 false=false:=by simpa using x
  refine dw ?_;refine aF ?_;refine bD ?_;exact⟨Ext.refl _,.inl ⟨rfl,rfl⟩⟩
 rw[if_pos x];refine fO ?_;have j:(rsO (λi=>l.getD i false) 17).1=wd l:=Vd _;have B:=OJ λi=>l.getD i false;have d:∀i,rsO (λi=>l.getD i false) (i+1)=if i+1=17\/l.getD (i+1) false≠l.getD i false then((rsO (λi=>l.getD i false) i).1++[(rsO (λi=>l.getD i false) i).2+1],0) else((rsO (λi=>l.getD i false) i).1,(rsO (λi=>l.getD i false) i).2+1):=λi=>rfl
 have e:(rsO (λi=>l.getD i false) 0)=([],0):=rfl;generalize rsO (λi=>l.getD i false)=W at *;replace o:False\/∀i,i<17->xs[J+i]?=some (.bool<|l.getD i false):=.inr o;replace B:=Wa B;replace d:=Wa d;replace e:=Wa e;replace j:=Wa j;refine aF ?_;apply aP (λk S H'=>Ext H H'/\∃s q,H.length<=q/\Own lo 1 H' s q ((W k).1.map<|Value.int .i64)/\∃(z:Nat->Value),S=[.slice (some ⟨xb,J,K⟩) 17 xc,z 1,s,.int .i64 (W k).2,.int .i64 k,z 5,z 6,z 7]) 17
 .exact⟨Ext.refl _,.slice none 0 0,H.length,Nat.le_refl _,by rw[Wb e];exact Own.nil D,aH (by rw[Wb e];rfl)⟩
 .rintro k S H' M ⟨-,s,q,-,-,z,rfl⟩
  exact⟨_,bR,Wr⟩
 .rintro k S H' M ⟨p,s,q,y,a,z,rfl⟩
  have Z:=p.1;have L:=Wb o k M;have Q:=p.get P;obtain⟨R,U,V⟩:=Wb B k;have b:=Wb d k;generalize (W k).1=A at *;generalize (W k).2=n at *;replace b:=Wa b;refine aF ?_;refine bu (t:=decide<|k+1=17\/l.getD (k+1) false≠l.getD k false) ?_ (λh=>?_) λh=>?_
  .by_cases f:k+1=17
   .have X:decide (((k:Nat):Int)+1=17)=true:=decide_eq_true byO
    rw[decide_eq_true (show k+1=17\/_ from .inl f)];simp(disch:=try exact dO)only[evB,xtr,Nat.reduceAdd,Nat.reduceMul,Nat.reduceBEq,Int.reduceToNat,Int.reduceEq,Int.reduceNe, *];try rfl
   .have X:decide (((k:Nat):Int)+1=17)=false:=decide_eq_false byO
    have f':=Wb o (k+1) byO;have ek:(((k:Nat):Int)+1).toNat=k+1:=byO;rw[show decide (k+1=17\/l.getD (k+1) false≠l.getD k false)=(l.getD (k+1) false != l.getD k false) by cases l.getD (k+1) false<;>cases l.getD k false<;>simp[f]];generalize l.getD (k+1) false=u at *;generalize l.getD k false=w at *;cases u<;>cases w<;>(simp(disch:=try exact dO)only[evB,xtr,Nat.reduceAdd,Nat.reduceMul,Nat.reduceBEq,Int.reduceToNat,Int.reduceEq,Int.reduceNe, *];rfl)
  .have c:=of_decide_eq_true h
   have b:=Wb b;rw[if_pos c]at b;refine aF ?_;refine fC ?_;apply jx (A:=H.length) (l:=A) (m:=[n+1]) (λ_=>rfl) Wr y Wr (a.mono<|Ext.app _ _) (Sl.whole aI rfl) Wr;rintro v' H6 q' F g C;have I:=C.ext (p.trans<|Ext.app _ _) y;replace b:=Wa b;refine aF ?_;exact⟨I,_,q',F,by rw[Wb b];exact g,aH (by rw[Wb b];first|rfl|simp)⟩
  .have c:=of_decide_eq_false h
   have b:=Wb b;rw[if_neg c]at b;replace b:=Wa b;refine aF ?_;exact⟨p,_,q,y,by rw[Wb b];exact a,aH (by rw[Wb b];first|rfl|simp)⟩
 rintro S H' ⟨p,s,q,y,a,z,rfl⟩;rw[Wb j]at a;have G:SlI H' s<|wd l:=Sl.ofOwn a;refine aF ?_;refine bD ?_;exact⟨p,G⟩
def DG{l:XI}(M:lo<=H.length)(s:SlI H v l)(L:l.length<=17)(b:¬ (l.length=8/\Okw l 8)) :
  Ev cp lo 28 [.agg ⟨tabV⟩,v] H λr H'=>Ext H H'/\r=.tuple #[.int .i64<|-1,.int .i64 0]:=by
 have G:=jY;have N:=kT;generalize tabV=T at *;have f:=s.mono<|Ext.push H<|some T;obtain⟨B,C,rfl⟩:=s.len;have e:=OE<|wsL l;have c:=λk (n:k<l.length)=>f.els 0 byO;replace c:=Wa c;replace b:=Wa b;clear s f;apply stG rfl rfl;unfold O3;simp[kB,aC];refine aF ?_;have g:=Ext.push H<|some T;generalize H++[some T]=K at *;apply aP (λk S H'=>K=H'/\Okw l k/\pS (wsL l) k<=6*k/\∃(z:Nat->Value),S=[z 0,.slice B l.length C,z 2,z 3,z 4,.int .i64 ((pS (wsL l) k:Nat):Int),.int .i64 ((rA (wsL l) k:Nat):Int),.int .i64 k,z 8,z 9,z 10,z 11,z 12,z 13,z 14,z 15,z 16,z 17,z 18,z 19]) l.length
 .exact⟨rfl,λi J=>byO,Nat.le_refl _,aH rfl⟩
 .rintro k S H' n ⟨rfl,a,A,z,rfl⟩
  exact⟨_,bR,Wc⟩
 .rintro k S H' n ⟨rfl,a,A,z,rfl⟩
  obtain⟨xb,xo,U,xc,xs,m,W,y,l1⟩:=Wb c k n;cases m;have D:=y k n;clear y;have P:=e k;have m:pS (wsL l) (k+1)=pS (wsL l) k+wsL l k:=rfl;have u:rA (wsL l) (k+1)=(rA (wsL l) k+ptN k (wsL l k))%9:=rfl;have d:wsL l k=(l.getD k 0).toNat:=rfl;obtain⟨x,o⟩:∃x,x=l.getD k 0:=⟨_,rfl⟩;rw[<-o]at D d;rw[m,u];generalize rA (wsL l) k=t at *;generalize pS (wsL l) k=s0 at *;generalize wsL l k=w at *;replace o:=Wa o;replace a:=Wa a;replace d:=Wa d;clear m u e;refine eD ?_ ?_<;>intro h
  .clear h
   refine aF ?_;refine bD ?_;exact⟨g,rfl⟩
  have j:1<=x/\x<=6:=by
   simp[Bool.or_eq_false_iff,ai₀]at h;omega
  clear h;obtain rfl:x=((w:Nat):Int):=by have:=Wb d;omega
  obtain⟨Q,R⟩:=j;have O:=yI (k:=k) (show w<=6 by omega);have Y:(((t:Nat):Int)+((ptN k w:Nat):Int)).tmod 9=(((t+ptN k w)%9:Nat):Int):=by
   rw[<-ap₀];rfl
  have F:=(Io (lo:=lo) (H:=K) (show k<100 by omega) (show w<=6 by omega)).sub y6;generalize (t+ptN k w)%9=Z at *;refine aF ?_;refine fC ?_;apply aB F;rintro r V ⟨rfl,rfl⟩;refine aF ?_;refine⟨We,λi J=>?_,byO,aH ncM⟩;by_cases q:i=k
  .subst q;rw[<-Wb o];exact⟨Q,R⟩
  .exact Wb a i byO
 rintro S H' ⟨rfl,a,A,z,rfl⟩;have p:l.length≠8:=λq=>Wb b ⟨q,by rw[q]at a;exact a⟩;have X:decide (((l.length:Nat):Int)=8)=false:=decide_eq_false byO;have I:decide (((l.length:Nat):Int)≠8)=true:=decide_eq_true byO;clear p c e a;refine dw ?_;refine aF ?_;refine bD ?_;exact⟨g,rfl⟩
def rdW:Option (Nat×Nat)->Value
 | none=>.tuple #[.int .i64<|-1,.int .i64 0]
 | some (k,v)=>.tuple #[.int .i64 k,.int .i64 v]
def La{l:List Bool}(c:lo<=H.length)(e:SlI H v (if l.getD 0 false=true then wd l else[])) :
  ∃a b:Int,Ev cp lo 28 [.agg ⟨tabV⟩,v] H (λr H'=>Ext H H'/\r=.tuple #[.int .i64 a,.int .i64 b])/\(rdP l=none/\¬ ((a=0\/a=3\/a=6)/\b<=928)\/∃k v:Nat,rdP l=some (k,v)/\a=k/\b=v/\((a=0\/a=3\/a=6)/\b<=928)):=by
 by_cases f:l.getD 0 false=true
 .rw[if_pos f]at e
  by_cases d:(wd l).length=8/\Okw (wd l) 8
  .have h:=L9 c e d.1 d.2
   by_cases g:pS (wsL<|wd l) 8=17
   .rw[if_pos g]at h
    refine⟨_,_,h,?_⟩;have i:clu (wsL<|wd l)<9:=Nat.mod_lt _ Wd;by_cases c3:clu (wsL<|wd l)%3=0/\nA (wsL<|wd l) (clu<|wsL<|wd l) 8<=928
    .right
     exact⟨_,_,Lt ⟨f,d.1,d.2,g,c3⟩,rfl,rfl,byO,byO⟩
    .left
     exact⟨sJ λh=>c3 h.2.2.2.2,byO⟩
   .rw[if_neg g]at h
    exact⟨_,_,h,.inl ⟨sJ λh=>g h.2.2.2.1,Wd⟩⟩
  .exact⟨_,_,DG c e (sQ _ 17).1 d,.inl ⟨sJ λh=>d ⟨h.2.1,h.2.2.1⟩,Wd⟩⟩
 .rw[if_neg f]at e
  exact⟨_,_,DG c e Wc Wc,.inl ⟨sJ λh=>f h.1,Wd⟩⟩
def Bk{l:List Bool}(w:lo<=H.length)(z:SlB H v l)(q:l.length=17):Ev cp lo 99 [.agg ⟨tabV⟩,v] H λr H'=>Ext H H'/\r=rdW (rdP l):=by
 have p:=jY;have x:=kT;have y:tabV.take 1458=tabV:=List.take_of_length_le byO;have e:=λ{K:Heap} {u:Value} (f:lo<=K.length) (g:SlI K u _)=>La (lo:=lo) (H:=K) (l:=l) f g;generalize tabV=T at *;apply stG rfl rfl;unfold SA;simp[kB,aC];refine aF ?_;have h:=Ext.push H<|some T;have D:Heap.get (H++[some T]) H.length=some T:=aX _ _;have j:=z.mono h;generalize H++[some T]=K at *;have s:=h.1;refine fC ?_;refine aS (MW byO j q) ?_;rintro u A ⟨c,o⟩;have c:=h.trans c;have t:=c.1;have⟨a,b,n,i⟩:=e byO o;refine iU ?_;apply dz n;rintro r B ⟨d,rfl⟩;have d:=c.trans d;replace i:=Wa i;refine aF ?_;refine fC ?_;apply aB Qh;rintro r C ⟨rfl,rfl⟩;rcases Wb i with ⟨f,g⟩|⟨k,v,f,rfl,rfl,g⟩
 .rw[f]
  have m:decide ((a=0\/a=3\/a=6)/\b<=928)=false:=decide_eq_false g;rw[m];(try simp[aC]);refine dw ?_;refine aF ?_;refine bD ?_;exact⟨d,rfl⟩
 .rw[f,decide_eq_true g]
  (try simp[aC]);refine fO ?_;refine aF ?_;refine bD ?_;exact⟨d,rfl⟩
theorem Ns{l m:List Bool}(h:l.length=m.length)(e:∀j,j<l.length->l.getD j false=m.getD j false):l=m:=by grind[List.ext_getElem]
def HZ{v w:Value}{l m:List Bool}(s:SlB H v l)(x:SlB H w m)(L:l.length<=1000000000)(M:m.length<=1000000000):Ev cp lo 86 [v,w] H λr H'=>H'=H/\r=.bool (decide<|l=m):=by
 have g:=λk (e:k<l.length)=>s.els false byO;have i:=λk (e:k<m.length)=>x.els false byO;obtain⟨B,D,rfl⟩:=s.len;obtain⟨C,F,rfl⟩:=x.len;replace g:=Wa g;replace i:=Wa i;apply stG rfl rfl;unfold Rt;simp[kB,aC];refine aF ?_;by_cases c:l.length=m.length;rotate_left
 .have n:decide (((l.length:Nat):Int)≠((m.length:Nat):Int))=true:=decide_eq_true byO
  have a:decide (((l.length:Nat):Int)=((m.length:Nat):Int))=false:=decide_eq_false byO;rw[decide_eq_false (show ¬ l=m from λh=>c Yh)];refine eD ?_ ?_<;>intro h;rotate_left
  .exfalso;simp at h;try omega
  refine aF ?_;refine bD ?_;exact⟨rfl,rfl⟩
 have n:decide (((l.length:Nat):Int)≠((m.length:Nat):Int))=false:=decide_eq_false byO;have a:decide (((l.length:Nat):Int)=((m.length:Nat):Int))=true:=decide_eq_true byO;refine eD ?_ ?_<;>intro h
 .exfalso;simp at h;try omega
 replace c:=Wa c;refine aF ?_;apply aP (λk S H'=>H=H'/\(∀j,j<k->l.getD j false=m.getD j false)/\∃(z:Nat->Value),S=[.slice B l.length D,.slice C m.length F,.bool false,z 3,.int .i64 l.length,.int .i64 k]) l.length
 .exact⟨rfl,λj K=>byO,aH rfl⟩
 .rintro k S H' e ⟨rfl,b,z,rfl⟩
  exact⟨_,bR,Wc⟩
 .rintro k S H' e ⟨rfl,b,z,rfl⟩
  obtain⟨U,W,N,V,xs,G,Q,y,l1⟩:=Wb g k e;obtain⟨X,Z,O,Y,ys,I,R,A,l2⟩:=Wb i k (by have:=Wb c;omega);cases G;cases I;have J:=y k e;have P:=A k (by have:=Wb c;omega);have p:=Wb c;replace p:l.length<=m.length/\m.length<=l.length:=byO;clear y A;by_cases d:l.getD k false=m.getD k false
  .have o:False\/∀j,j<k+1->l.getD j false=m.getD j false:=.inr λj K=>by
    by_cases q:j=k
    .rw[q];exact d
    .exact b j byO
   clear b;rw[d]at J;generalize m.getD k false=u at *;clear d;refine aF ?_;refine bu (t:=false) ?_ (λh=>by cases h) λh=>?_
   .cases u<;>(simp(disch:=try exact dO)only[evB,xtr,Nat.reduceAdd,Nat.reduceMul,Nat.reduceBEq,Int.reduceToNat,Int.reduceEq,Int.reduceNe, *];rfl)
   refine aF ?_;exact⟨We,Wb o,aH ncM⟩
  .have f:¬ l=m:=λh=>d Yh
   clear b;rw[decide_eq_false f];clear f;generalize l.getD k false=t at *;generalize m.getD k false=u at *;refine aF ?_;refine bu (t:=true) ?_ (λh=>?_) (λh=>by cases h)
   .cases t<;>cases u<;>first|exact absurd rfl d|(clear d;simp(disch:=try exact dO)only[evB,xtr,Nat.reduceAdd,Nat.reduceMul,Nat.reduceBEq,Int.reduceToNat,Int.reduceEq,Int.reduceNe, *];rfl)
   clear h d;refine aF ?_;refine bD ?_;exact⟨rfl,rfl⟩
 rintro S H' ⟨rfl,b,z,rfl⟩;rw[decide_eq_true<|Ns (Wb c) b];clear b;refine aF ?_;refine bD ?_;exact⟨rfl,rfl⟩
def OL{v w:Value}{l m:List Bool}(s:SlB H v l)(x:SlB H w m)(L:l.length<=1000000000)(M:m.length<=1000000000):Ev cp lo 42 [v,w] H λr H'=>H'=H/\r=.bool (decide<|l=m):=by
 have g:=λk (e:k<l.length)=>s.els false byO;have i:=λk (e:k<m.length)=>x.els false byO;obtain⟨B,D,rfl⟩:=s.len;obtain⟨C,F,rfl⟩:=x.len;replace g:=Wa g;replace i:=Wa i;apply stG rfl rfl;unfold Rb;simp[kB,aC];refine aF ?_;by_cases c:l.length=m.length;rotate_left
 .have n:decide (((l.length:Nat):Int)≠((m.length:Nat):Int))=true:=decide_eq_true byO
  have a:decide (((l.length:Nat):Int)=((m.length:Nat):Int))=false:=decide_eq_false byO;rw[decide_eq_false (show ¬ l=m from λh=>c Yh)];refine eD ?_ ?_<;>intro h;rotate_left
  .exfalso;simp at h;try omega
  refine aF ?_;refine bD ?_;exact⟨rfl,rfl⟩
 have n:decide (((l.length:Nat):Int)≠((m.length:Nat):Int))=false:=decide_eq_false byO;have a:decide (((l.length:Nat):Int)=((m.length:Nat):Int))=true:=decide_eq_true byO;refine eD ?_ ?_<;>intro h
 .exfalso;simp at h;try omega
 replace c:=Wa c;refine aF ?_;apply aP (λk S H'=>H=H'/\(∀j,j<k->l.getD j false=m.getD j false)/\∃(z:Nat->Value),S=[.slice B l.length D,.slice C m.length F,.bool false,.int .i64 k]) l.length
 .exact⟨rfl,λj K=>byO,aH rfl⟩
 .rintro k S H' e ⟨rfl,b,z,rfl⟩
  exact⟨_,bR,Wc⟩
 .rintro k S H' e ⟨rfl,b,z,rfl⟩
  have⟨U,W,N,V,xs,G,Q,y,l1⟩:=Wb g k e;have⟨X,Z,O,Y,ys,I,R,A,l2⟩:=Wb i k (by have:=Wb c;omega);cases G;cases I;have J:=y k e;have P:=A k (by have:=Wb c;omega);have p:=Wb c;replace p:l.length<=m.length/\m.length<=l.length:=byO;clear y A;by_cases d:l.getD k false=m.getD k false
  .have o:False\/∀j,j<k+1->l.getD j false=m.getD j false:=.inr λj K=>by
    by_cases q:j=k
    .rw[q];exact d
    .exact b j byO
   rw[d]at J;generalize m.getD k false=u at *;refine bu (t:=false) ?_ (λh=>by cases h) λh=>?_
   .cases u<;>(simp(disch:=try exact dO)only[evB,xtr,Nat.reduceAdd,Nat.reduceMul,Nat.reduceBEq,Int.reduceToNat,Int.reduceEq,Int.reduceNe, *];rfl)
   refine aF ?_;exact⟨We,Wb o,aH ncM⟩
  .have f:¬ l=m:=λh=>d Yh
   rw[decide_eq_false f];generalize l.getD k false=t at *;generalize m.getD k false=u at *;refine bu (t:=true) ?_ (λh=>?_) (λh=>by cases h)
   .cases t<;>cases u<;>first|exact absurd rfl d|(clear d;simp(disch:=try exact dO)only[evB,xtr,Nat.reduceAdd,Nat.reduceMul,Nat.reduceBEq,Int.reduceToNat,Int.reduceEq,Int.reduceNe, *];rfl)
   refine aF ?_;refine bD ?_;exact⟨rfl,rfl⟩
 rintro S H' ⟨rfl,b,z,rfl⟩;rw[decide_eq_true<|Ns (Wb c) b];refine aF ?_;refine bD ?_;exact⟨rfl,rfl⟩
end
section
def ph(a b c d:Value):(Value.agg #[a,b,c,d]).cells=#[a,b,c,d]:=rfl
def rnN(x:Nat×Nat):Nat:=3*(x.2/30)+x.1/3
def scQ:Option (Nat×Nat)->Option (Nat×Nat)->Option (Int×Int×Int)
 | none,none=>none
 | some x,none=>some ((rnN x:Nat),(x.2%30:Nat),-1)
 | none,some y=>some ((rnN y:Nat),-1,(y.2%30:Nat))
 | some x,some y=>if rnN x=rnN y then some ((rnN x:Nat),(x.2%30:Nat),(y.2%30:Nat)) else none
def scP(l:List Bool):Option<|Int×Int×Int:=
 if l.take 17=startL/\l.drop (l.length-18)=stopL then scQ (rdP<|(l.drop 17).take 17) (rdP<|(l.drop<|l.length-35).take 17) else none
def LineV(H:Heap)(v:Value)(l:List Bool):Prop:=match scP l with
 | none=>v=.iface 149 (.agg #[])
 | some (n,a,b)=>∃mv,v=.iface 153 (.agg #[.int .i64 n,.int .i64 a,.int .i64 b,mv])/\SlB H mv ((l.drop 34).take<|l.length-35-34)
theorem LineV.lost{H:Heap}{l:List Bool}(h:scP l=none):LineV H (.iface 149<|.agg #[]) l:=by unfold LineV;rw[h]
theorem LineV.found{H:Heap}{l:List Bool}{n a b:Int}{mv:Value}(h:scP l=some (n,a,b))(c:SlB H mv<|(l.drop 34).take<|l.length-35-34):LineV H (.iface 153<|.agg #[.int .i64 n,.int .i64 a,.int .i64 b,mv]) l:=by grind[LineV]
def P6{k v:Nat}(a:k<9)(b:v<=928):∃p q r N:Nat,((v:Nat):Int).tdiv 30=(p:Nat)/\((v:Nat):Int).tmod 30=(q:Nat)/\((k:Nat):Int).tdiv 3=(r:Nat)/\(3:Int)*(p:Nat)+(r:Nat)=(N:Nat)/\p<=30/\q<30/\r<=2/\N<=92/\N=rnN (k,v)/\q=v%30:=
 ⟨v/30,v%30,k/3,rnN (k,v),rfl,rfl,rfl,rfl,byO,Nat.mod_lt _ Wd,byO,by show 3*(v/30)+k/3<=92;omega,rfl,rfl⟩
namespace XVf
def xtr:=zzi @Int.cast_ofNat_Int<|zzi @ite_self.{1} @ph
end XVf
open XVf
def TH{lo b:Nat}{H:Heap}{vr vs ve:Value}{l:List Bool}(F:lo<=H.length)(Q:H.get b=some tabV)(z:SlB H vr l)(V:SlB H vs startL)(P:SlB H ve stopL)(h1:86<=l.length)(h2:l.length<=100000) :
  Ev cpL lo 46 [.pointer<|some ⟨b,0,none⟩,vr,vs,ve] H λr H'=>Ext H H'/\LineV H' r l:=by
 obtain⟨v1,q1,I⟩:=yZ z (n:=17) byO;obtain⟨v2,q2,J⟩:=sN z (n:=l.length-18) byO;obtain⟨v3,q3,L⟩:=eO z (x:=17) (y:=34) (a:=17) (b:=34) rfl rfl byO byO;obtain⟨v4,q4,A⟩:=eO z (x:=((l.length-35:Nat):Int)) (y:=((l.length-18:Nat):Int)) (a:=l.length-35) (b:=l.length-18) rfl rfl byO byO;obtain⟨v5,q5,e⟩:=eO z (x:=34) (y:=((l.length-35:Nat):Int)) (a:=34) (b:=l.length-35) rfl rfl byO byO;rw[show l.length-18-(l.length-35)=17 by omega]at A;have e5:((l.length:Nat):Int)-18=((l.length-18:Nat):Int):=byO;have e6:((l.length-18:Nat):Int)-17=((l.length-35:Nat):Int):=byO;have n5:l.length-18<=100000:=byO;have n6:l.length-35<=100000:=byO;have n7:86-35<=l.length-35:=byO;have m:=λ(K:Heap) (i:Ext H K)=>(HZ (lo:=lo) (I.mono i) (V.mono i) Wr Wd).sub jQ;have o:=λ(K:Heap) (i:Ext H K)=>(HZ (lo:=lo) (J.mono i) (P.mono i) Wr Wd).sub jQ;have j:=λ(K:Heap) (i:Ext H K)=>(QR (lo:=lo) (H:=K) (by have:=i.1;omega) (i.get Q) (L.mono i) Wr).sub jQ;have f:=λ(K:Heap) (i:Ext H K)=>(QR (lo:=lo) (H:=K) (by have:=i.1;omega) (i.get Q) (A.mono i) Wr).sub jQ;obtain⟨a5,c5,rfl⟩:=e.len;rw[show((l.drop 34).take<|l.length-35-34).length=l.length-69 by simp;omega]at e q5;have U:=V.len;have w:=P.len;obtain⟨ar,cr,rfl⟩:=z.len;obtain⟨a6,c6,rfl⟩:=U;obtain⟨a7,c7,rfl⟩:=w;simp only[show startL.length=17 from rfl,show stopL.length=18 from rfl]at *;have c:scP l=if l.take 17=startL/\l.drop (l.length-18)=stopL then scQ (rdP<|(l.drop 17).take 17) (rdP<|(l.drop<|l.length-35).take 17) else none:=rfl
 rw[show 34-17=17 from rfl]at j;replace q1:∀G,aG (.sl 1 false true false) [.slice ar l.length cr,.int .i64 17] G=some v1:=q1;generalize hA:rdP ((l.drop 17).take 17)=oA at *;generalize hB:rdP ((l.drop<|l.length-35).take 17)=oB at *;have B:∀k v,oA=some (k,v)->k<9/\v<=928:=λk v h=>by rw[<-hA]at h;exact⟨(my h).1,(my h).2.2⟩
 have bB:∀k v,oB=some (k,v)->k<9/\v<=928:=λk v h=>by rw[<-hB]at h;exact⟨(my h).1,(my h).2.2⟩
 clear hA hB I J L A z V P Q;replace m:=Wa m;replace o:=Wa o;replace j:=Wa j;replace f:=Wa f;replace c:=Wa c;replace B:=Wa B;replace bB:=Wa bB;refine stG rfl rfl ?_;unfold Rd;simp only[kB,aC];refine aF ?_;refine fC ?_;refine aB (Wb m _<|Ext.refl _) ?_;rintro r K ⟨rfl,rfl⟩;by_cases C:l.take 17=startL;rotate_left
 .rw[decide_eq_false C]
  have g:False\/scP l=none:=.inr (by rw[Wb c,if_neg λh=>C h.1]);(try simp only[aC]);refine aU (t:=false) bR lD vA (λh=>by cases h) λ_=>?_;(try simp only[aC]);refine dw ?_;refine aF ?_;refine bD ?_;exact⟨Ext.refl _,LineV.lost<|Wb g⟩
 rw[decide_eq_true C];(try simp only[aC]);refine aU (t:=true) bR lD vA (λ_=>⟨_,bR,?_⟩) (λh=>by cases h);refine aB (Wb o _<|Ext.refl _) ?_;rintro r K ⟨rfl,rfl⟩;by_cases D:l.drop (l.length-18)=stopL;rotate_left
 .rw[decide_eq_false D]
  have g:False\/scP l=none:=.inr (by rw[Wb c,if_neg λh=>D h.2]);(try simp only[aC]);refine dw ?_;refine aF ?_;refine bD ?_;exact⟨Ext.refl _,LineV.lost<|Wb g⟩
 rw[decide_eq_true D];have c:=Wb c;rw[if_pos ⟨C,D⟩]at c;clear C D m o;replace c:=Wa c;(try simp only[aC]);refine fO ?_;refine aF ?_;refine fC ?_;refine aB (Wb j _<|Ext.refl _) ?_;rintro r K ⟨s,rfl⟩;clear j;have f:=Wb f _ s;have e:=e.mono s;rcases oA with _|⟨k,v⟩
 .unfold rdV
  refine aF ?_;refine fC ?_;refine aB f ?_;rintro r K2 ⟨d,rfl⟩;have e:=e.mono d;have d:=s.trans d;have w:=Nat.le_trans F d.1;clear f;rcases oB with _|⟨k,v⟩
  .have g:False\/scP l=none:=.inr<|Wb c
   unfold rdV;refine aF ?_;refine fO ?_;(try simp only[aC]);refine fO ?_;(try simp only[aC]);refine dw ?_;refine aF ?_;refine bD ?_;exact⟨d.trans<|Ext.app _ _,LineV.lost<|Wb g⟩
  .obtain⟨R,W⟩:=Wb bB k v rfl
   obtain⟨p,q,r,N,i1,i2,i3,i4,i5,i6,i7,i8,rfl,rfl⟩:=P6 R W;have g:False\/scP l=some (((rnN (k,v):Nat):Int),-1,((v%30:Nat):Int)):=.inr<|Wb c;clear c B bB;generalize rnN (k,v)=N at *;generalize v%30=q at *;unfold rdV;refine aF ?_;refine fO ?_;(try simp only[aC]);refine dw ?_;refine aF ?_;refine fO ?_;refine aF ?_;refine fO ?_;refine aF ?_;refine bD ?_;exact⟨d.trans<|Ext.app _ _,LineV.found (Wb g)<|e.mono<|Ext.app _ _⟩
 .obtain⟨R,W⟩:=Wb B k v rfl
  obtain⟨p,q,r,N,i1,i2,i3,i4,i5,i6,i7,i8,O,M⟩:=P6 R W;clear B;unfold rdV;refine aF ?_;refine fC ?_;refine aB f ?_;rintro u K2 ⟨d,rfl⟩;have e:=e.mono d;have d:=s.trans d;have w:=Nat.le_trans F d.1;clear f;rcases oB with _|⟨Z,v'⟩
  .have g:False\/scP l=some (((N:Nat):Int),((q:Nat):Int),-1):=.inr (by rw[Wb c,O,M];rfl)
   clear c bB O M;unfold rdV;refine aF ?_;refine dw ?_;refine aF ?_;refine fO ?_;refine aF ?_;refine fO ?_;refine aF ?_;refine bD ?_;exact⟨d.trans<|Ext.app _ _,LineV.found (Wb g)<|e.mono<|Ext.app _ _⟩
  .obtain⟨S,X⟩:=Wb bB Z v' rfl
   obtain⟨p',q',r',N',j1,j2,j3,j4,j5,j6,j7,j8,j9,Y⟩:=P6 S X;by_cases hN:N=N'
   .have g:False\/scP l=some (((N:Nat):Int),((q:Nat):Int),((q':Nat):Int)):=.inr (by
     rw[Wb c];show(if rnN (k,v)=rnN (Z,v') then _ else _)=_;rw[if_pos byO,O,M,Y])
    subst hN;clear c bB O M j9 Y;unfold rdV;refine aF ?_;refine dw ?_;refine aF ?_;refine dw ?_;refine aF ?_;refine eD ?_ ?_<;>intro h
    .simp at h
    clear h;refine aF ?_;refine fO ?_;refine aF ?_;refine bD ?_;exact⟨d.trans<|Ext.app _ _,LineV.found (Wb g)<|e.mono<|Ext.app _ _⟩
   .have g:False\/scP l=none:=.inr (by
     rw[Wb c];show(if rnN (k,v)=rnN (Z,v') then _ else _)=_;rw[if_neg byO])
    clear c bB O M j9 Y;unfold rdV;refine aF ?_;refine dw ?_;refine aF ?_;refine dw ?_;refine aF ?_;refine eD ?_ ?_<;>intro h;rotate_left
    .exfalso;simp at h;omega
    clear h;refine aF ?_;refine bD ?_;exact⟨d.trans<|Ext.app _ _,LineV.lost<|Wb g⟩
end
variable{H:Heap}
def vC(a:Nat->Nat):XV:=(List.range 30).map λi=>.int .i64 (a i)
theorem ff(a:Nat->Nat):(vC a).length=30:=by simp[vC]
theorem Ac{a:Nat->Nat}{i:Nat}(h:i<30):(vC a)[i]?=some (.int .i64 (a i)):=by simp[vC,h]
def vUp(a:Nat->Nat)(x:Int):Nat->Nat:=λj=>if (j:Int)=x then a j+1 else a j
theorem Bx{a:Nat->Nat}{i:Nat}(h:i<30):(vC a).set i (.int .i64 ((a i+1:Nat):Int))=vC (vUp a (i:Nat)):=by
 refine List.ext_getElem (by simp[vC]) λj b c=>?_;grind[vC,vUp]
theorem Df{a:Nat->Nat}:vUp a (-1)=a:=by funext j;unfold vUp;rw[if_neg byO]
theorem qh{a:Nat->Nat}{m:Nat}(h:∀j,a j<=m)(x:Int):∀j,vUp a x j<=m+1:=λj=>by
 have:=h j;unfold vUp;split<;>omega
def Stat(x:Int):Prop:=x=-1\/∃n:Nat,x=n/\n<30
namespace XVg
def xtr:=zzi @Int.cast_ofNat_Int<|zzi @ite_self.{1} (zzi @ph @ff)
end XVg
open XVg
def Dg{lo b:Nat}{a:Nat->Nat}{x:Int}(l:lo<=b)(e:H.get b=some (vC a))(o:Stat x)(d:∀j,a j<=100000) :
  Ev cpL lo 88 [.pointer<|some ⟨b,0,none⟩,.int .i64 x] H λr H'=>H'=H.set b (some<|vC<|vUp a x):=by
 have m:=Heap.get_lt e;rcases o with rfl|⟨n,rfl,g⟩
 .rw[Df]
  apply stG rfl rfl;unfold Oa;simp[kB,aC];refine eD ?_ ?_<;>intro h
  .grind
  refine aF ?_;apply bQ (by simp(disch:=try exact dO)only[evB,xtr,Nat.reduceAdd,Nat.reduceMul,Nat.reduceBEq,Int.reduceToNat,Int.reduceEq,Int.reduceNe, *];rfl);exact(gI e).symm
 .have i:=Ac (a:=a) g
  have c:=Bx (a:=a) g;have k:=d n;have f:=ff a;have p:((a n:Nat):Int)+1=((a n+1:Nat):Int):=byO;generalize vC (vUp a (n:Nat))=D at *;generalize vC a=C at *;generalize a n+1=y at *;generalize a n=x at *;apply stG rfl rfl;unfold Oa;simp[kB,aC];refine eD ?_ ?_<;>intro h;rotate_left
  .exfalso;simp at h;try omega
  refine aF ?_;apply bQ (by simp(disch:=try exact dO)only[evB,xtr,Nat.reduceAdd,Nat.reduceMul,Nat.reduceBEq,Int.reduceToNat,Int.reduceEq,Int.reduceNe, *];rfl)
  first|rfl|rw[c]
def wn(a:Nat->Nat):Nat->Nat
 | 0=>0
 | k+1=>if a (wn a k)<a k then k else wn a k
theorem rW(a:Nat->Nat):∀k,k<=30->wn a k<30
 | 0,_=>by show 0<30;decide
 | k+1,h=>by
  show(if _ then _ else _)<30;split
  .omega
  .exact rW a k byO
def Dj{lo b:Nat}{a:Nat->Nat}(m:H.get b=some (vC a))(p:∀j,a j<=100000) :
  Ev cpL lo 89 [.pointer<|some ⟨b,0,none⟩] H λr H'=>H'=H/\r=.tuple #[.int .i64 (wn a 30),.bool<|decide<|0<a (wn a 30)]:=by
 have n:=Heap.get_lt m;have c:=λi (h:i<30)=>Ac (a:=a) h;have g:=ff a;generalize vC a=C at *;replace c:=Wa c;apply stG rfl rfl;unfold Rv;simp[kB,aC];refine aF ?_;apply aP (λk S H'=>H=H'/\∃(z:Nat->Value),S=[.pointer<|some ⟨b,0,none⟩,z 1,z 2,.int .i64 (wn a k),z 4,z 5,.pointer<|some ⟨b,0,none⟩,.int .i64 k]) 30
 .exact⟨rfl,aH rfl⟩
 .rintro k S H' f ⟨rfl,z,rfl⟩
  exact⟨_,bR,Wr⟩
 .rintro k S H' f ⟨rfl,z,rfl⟩
  have d:=rW a k byO;have o:=Wb c k f;have l:=Wb c _ d;have e:wn a (k+1)=if a (wn a k)<a k then k else wn a k:=rfl
  rw[e];generalize wn a k=w at *;refine aF ?_;refine eD ?_ ?_<;>intro h
  .rw[if_pos Ws]
   refine aF ?_;exact⟨We,aH ncM⟩
  .rw[if_neg Ws]
   refine aF ?_;exact⟨We,aH ncM⟩
 rintro S H' ⟨rfl,z,rfl⟩;have d:=rW a 30 byO;have l:=Wb c _ d;generalize wn a 30=w at *;refine aF ?_;refine bD ?_;refine⟨rfl,?_⟩;simp[aR]
def DK{lo:Nat}{L:Nat}(a:L<=8):Ev cp lo 32 [.int .i64 L] H λr H'=>H'=H/\r=.int .i64 ((2^(L+1):Nat):Int):=by
 have:L=0\/L=1\/L=2\/L=3\/L=4\/L=5\/L=6\/L=7\/L=8:=byO;rcases this with rfl|rfl|rfl|rfl|rfl|rfl|rfl|rfl|rfl
 all_goals
  apply stG rfl rfl;unfold Ra;simp[kB,aC];refine aF ?_;refine bD ?_;exact⟨rfl,rfl⟩
end Go.Proofs.YtgiojnobcjnibaaGreatDoor
