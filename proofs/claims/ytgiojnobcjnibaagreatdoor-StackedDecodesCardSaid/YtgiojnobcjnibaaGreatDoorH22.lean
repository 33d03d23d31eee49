/- Lemmas. -/
import Derived.Test.YtgiojnobcjnibaaGreatDoorH21
set_option linter.all false
set_option maxHeartbeats 4000000
set_option maxRecDepth 20000
namespace Go.Proofs.YtgiojnobcjnibaaGreatDoor
open Go.Abs Go.RS
section
variable{H:Heap}{lo:Nat}
open XGd
def V4{p:Int}{d:Nat}(W:p<2^13)(r:1<=d)(U:d<=12):Ev cp lo 171 [.int .i64 p,.int .i64 d] H λv H'=>H'=H/\∃b,v=.bool b/\(b=true↔0<=p/\br p.toNat=d+1/\Irr p.toNat):=by
 apply stG rfl rfl;unfold NH;simp only[kB,aC];refine aA ?_;by_cases g:p<0
 .refine aU aM dY aM (λh=>by simp[g]at h) λh=>?_
  clear h;(try simp only[aC]);refine M1 ?_;refine aA ?_;refine aL ?_;exact⟨rfl,false,rfl,Wr⟩
 obtain⟨n,rfl⟩:=Int.eq_ofNat_of_zero_le (show 0<=p by omega);rw[Int.toNat_natCast];have V:=eu (show n<2^63 by omega);refine aU aM dY aM (λh=>⟨_,aM,?_⟩) (λh=>by simp[g]at h);clear h;apply aB (pX (p:=(n:Int)) byO);rintro v x ⟨rfl,rfl⟩;rw[Int.toNat_natCast];(try simp only[aC]);refine aK ?_ ?_<;>intro h
 .have c:br n≠d+1:=Ws
  clear h;refine aA ?_;refine aL ?_;exact⟨rfl,false,rfl,by simp;intro i;exact absurd i c⟩
 have c:br n=d+1:=Ws
 clear h;have j:n≠0:=by rintro rfl;rw[qR]at c;omega
 have f:n.log2=d:=by rw[eB j]at c;omega
 have N:2<=n:=by
  have:=iA j;rw[f]at this;have G:2^1<=2^d:=Nat.pow_le_pow_right byO r;omega
 have I:br n<=d+1/\d+1<=br n:=byO;have s:n.log2<=d/\d<=n.log2:=byO;clear c f;refine aA ?_;apply aj (λm S H'=>∃(q:Nat) (B C D F:Value),2<=q/\q<=n+1/\m=n+2-q/\x=H'/\(∀t,2<=t->t<q->2*t.log2<=n.log2->¬ ∃m,n=cl t m)/\S=[.int .i64 n,.int .i64 d,.bool false,.int .i64 q,B,C,D,F]) n
 .exact⟨2,_,_,_,_,byO,byO,byO,rfl,λt i G=>byO,rfl⟩
 rintro m S H' ⟨q,B,C,D,F,l,O,rfl,rfl,k,rfl⟩;have a:q≠0:=byO;have u:=eB a;have z:=eu (show q<2^63 by omega);have y:br q<=q.log2+1/\q.log2+1<=br q:=byO;clear u;refine bV ?_;apply aB (pX (p:=(q:Int)) byO);rintro v P ⟨rfl,rfl⟩;rw[Int.toNat_natCast];(try simp only[aC]);refine aK ?_ ?_<;>intro h
 .have c:2*q.log2<=n.log2:=Ws
  clear h;have L:q<n:=by
   have i:=pO l;have o:=dM q;have Q:2^(q.log2+1)<=2^n.log2:=Nat.pow_le_pow_right byO byO;have R:=iA j;omega
  refine bV ?_;refine aB (OI (p:=n) (q:=q) byO byO a) ?_;rintro v x ⟨rfl,rfl⟩;have A:=DX (p:=n) a;(try simp only[aC]);refine aK ?_ ?_<;>intro h
  .have w:rm n q=0:=Ws
   clear h;refine aA ?_;refine aL ?_;exact⟨rfl,false,rfl,by simp;exact λ_ K=>K q l c<|A.1 w⟩
  .have w:rm n q≠0:=Ws
   clear h;refine aA ?_;simp only[bJ];refine⟨n+2-(q+1),byO,q+1,_,_,_,_,byO,byO,rfl,We,λt i o=>?_,ncM⟩;by_cases e:t=q
   .subst e;exact λ_ M=>w<|A.2 M
   .exact k t i byO
 .have c:n.log2<2*q.log2:=Ws
  clear h;refine aA ?_;refine aL ?_;refine⟨rfl,true,rfl,?_⟩;simp only[true_iff];refine⟨byO,byO,?_⟩;intro t i o;refine k t i ?_ o;apply Decidable.byContradiction;intro J;have:=zi (show q<=t by omega) a;omega
def Cs{sz d:Nat}(h:br sz=d+1):2^d<=sz/\sz<2^(d+1):=by
 have a:sz≠0:=by rintro rfl;rw[qR]at h;omega
 rw[eB a]at h;have b:=iA a;have c:=dM sz;rw[show sz.log2=d by omega]at b c;exact⟨b,c⟩
def It{a b:Nat}(h:2^a=2^b):a=b:=by
 rcases Nat.lt_trichotomy a b with c|c|c
 .have:=Nat.pow_lt_pow_right (a:=2) byO c;omega
 .exact c
 .have:=Nat.pow_lt_pow_right (a:=2) byO c;omega
def Qt{ch sz po:Int}(hs:sz<=9223372036854775807):Ev cp lo 125 [fv ch sz po] H λv H'=>Ext H H'/\∃b,v=.bool b/\(b=true↔∃f,OkF ch sz po f):=by
 unfold fv;apply stG rfl rfl;unfold Me;simp only[kB,aC];refine aA ?_;refine aK ?_ ?_<;>intro h
 .have x:ch=2:=Wy
  clear h;subst x;refine bV ?_;apply aB (pX (p:=sz) hs);rintro v V ⟨rfl,rfl⟩;by_cases R:2<=br sz.toNat/\br sz.toNat<=13
  .obtain⟨d,y⟩:∃d,br sz.toNat=d+1:=⟨br sz.toNat-1,byO⟩
   rw[y]at R ⊢;have c:(((d+1:Nat):Int)-1)=(d:Int):=byO;rw[c];have C:=lh (a:=1) (k:=d) (by
    have:2^d<=2^12:=Nat.pow_le_pow_right byO byO;omega) byO
   have D:=lh (a:=1) (k:=d+1) (by
    have:2^(d+1)<=2^13:=Nat.pow_le_pow_right byO byO;omega) byO
   rw[Nat.shiftLeft_eq,Nat.one_mul]at C D;have C:IntKind.i64.wrap (1*2^min d IntKind.i64.bits)=((2^d:Nat):Int):=C;have D:IntKind.i64.wrap (1*2^min (d+1) IntKind.i64.bits)=((2^(d+1):Nat):Int):=D;have U:2^(d+1)<=2^13:=Nat.pow_le_pow_right byO byO;have i:((d:Int)+1)=((d+1:Nat):Int):=byO;have n1:(1:Int)<=d:=byO;have n2:(d:Int)<=12:=byO;generalize F:2^d=Q at *;generalize G:2^(d+1)=O at *;refine aA ?_;apply aU aM dY aM<;>intro h
   .have w:sz=(Q:Int)/\po<O:=Ws
    refine⟨_,aM,?_⟩;apply aB (V4 (p:=po) (d:=d) byO byO byO);rintro v H3 ⟨rfl,b,rfl,I⟩;refine aA ?_;refine aL ?_;refine⟨Ext.app _ _,b,XT,?_⟩;rw[I];constructor
    .rintro⟨a0,s,z⟩
     have l:po.toNat≠0:=by intro e;rw[e,qR]at s;omega
     have t:po.toNat.log2=d:=by rw[eB l]at s;omega
     have:=Cs s;have W:2^1<=2^d:=Nat.pow_le_pow_right byO byO;refine⟨⟨Q,po.toNat⟩,.inr ⟨l,Wr,Wr,by simp;rw[t,F],z⟩,Wr,Wr,?_⟩;show(2:Int)=((if po.toNat=0 then Q else 2:Nat):Int);rw[if_neg l];rfl
    .rintro⟨f,j,m,o,g⟩
     have J:=j;rcases j with ⟨c,i,_⟩|⟨c,i,B,q,z⟩
     .unfold FD.ch at g;rw[if_pos c]at g;omega
     .have N:po.toNat=f.poly:=byO
      have A:f.poly.log2=d:=by
       have:2^f.poly.log2=2^d:=by rw[<-q,F];omega
       exact It this
      rw[N];exact⟨byO,by rw[eB c,A],z⟩
   .have w:¬ (sz=(Q:Int)/\po<O):=by
     rintro⟨m,o⟩;simp[m,o,n1,n2]at h
    refine aA ?_;refine aL ?_;refine⟨Ext.app _ _,false,XT,?_⟩;simp only[ah₀,false_iff];rintro⟨f,j,m,o,g⟩;apply w;have J:=j;rcases j with ⟨c,i,_⟩|⟨c,i,B,q,z⟩
    .unfold FD.ch at g;rw[if_pos c]at g;omega
    .have u:sz.toNat=2^f.poly.log2:=byO
     have r:=Cs y;rw[u]at r;have k1:d<=f.poly.log2:=by
      have:2^d<2^(f.poly.log2+1):=Nat.lt_of_le_of_lt r.1<|Nat.pow_lt_pow_right byO byO;have:=(Nat.pow_lt_pow_iff_right (by omega:1<2)).1 this;omega
     have k2:f.poly.log2<d+1:=(Nat.pow_lt_pow_iff_right (by omega:1<2)).1 r.2;have S:f.poly.log2=d:=byO;rw[S,F]at q;have:=dM f.poly;rw[S,G]at this;omega
  .have Z:=eu (show sz.toNat<2^63 by omega)
   have M:¬ ∃f,OkF 2 sz po f:=by
    rintro⟨f,j,m,o,g⟩;rcases j with ⟨c,i,_⟩|⟨c,i,B,q,z⟩
    .unfold FD.ch at g;rw[if_pos c]at g;omega
    .apply R
     have u:sz.toNat=2^f.poly.log2:=byO;have K:2^f.poly.log2≠0:=Nat.pos_iff_ne_zero.1<|Nat.pow_pos byO;rw[u,eB K,mj (Nat.le_refl _)<|Nat.pow_lt_pow_right byO byO];have:=pO i;omega
   generalize hL:br sz.toNat=L at *;have hT:(decide (1<=(L:Int)-1)&&decide ((L:Int)-1<=12))=false:=by
    rw[Bool.eq_false_iff];intro h;simp at h;omega
   have i:¬ (1<=(L:Int)-1/\(L:Int)-1<=12):=byO;refine aA ?_;refine aU aM dY aM (λh=>by cases h) λh=>?_;clear h;refine aA ?_;refine aL ?_;exact⟨Ext.app _ _,false,rfl,by simpa using M⟩
 .have x:¬ ch=2:=Wy
  clear h;(try simp only[aC]);refine aU aM dY aM ?_ ?_<;>intro h
  .have P:ch=sz/\po=0/\3<=sz/\sz<=4096:=Ws
   obtain⟨n,hn⟩:∃n:Nat,(n:Int)=sz:=⟨sz.toNat,byO⟩;refine⟨_,aM,?_⟩;refine aB (by rw[<-hn];exact Qn (n:=n) byO byO) ?_;rintro v V ⟨rfl,b,rfl,Y⟩;refine aA ?_;refine aL ?_;refine⟨Ext.app _ _,b,XT,?_⟩;rw[Y,DO byO];constructor
   .intro hp
    exact⟨⟨n,0⟩,.inl ⟨rfl,Wr,Wr,hp⟩,Wr,Wr,by simp[FD.ch];omega⟩
   .rintro⟨f,j,m,o,g⟩
    rcases j with ⟨c,i,B,q⟩|⟨c,i,_⟩
    .have:f.q=n:=byO
     rw[<-this];exact q
    .exfalso;omega
  .have P:¬ (ch=sz/\po=0/\3<=sz/\sz<=4096):=by
    rintro⟨m,o,g,X⟩;simp[m,o,g,X]at h
   refine aA ?_;refine aL ?_;refine⟨Ext.app _ _,false,XT,?_⟩;simp only[ah₀,false_iff];rintro⟨f,j,m,o,g⟩;rcases j with ⟨c,i,B,q⟩|⟨c,i,_⟩
   .apply P
    unfold FD.ch at g;rw[if_pos c]at g;omega
   .unfold FD.ch at g;rw[if_neg c]at g;omega
section
variable {f:FD}[OkC f]
def DZ(x y:El f):Ev cp lo 82 [fvf f,.int .i64 x.val,.int .i64 y.val] H λv H'=>Ext H H'/\v=.int .i64 (x+y).val:=by
 have j:=qle (f:=f);have k:=x.lt;have l:=y.lt;have d:=si<|OkC.ok (f:=f);rw[val_add];have g:=jT (a:=x.val) (b:=y.val) byO byO;have i:((x.val:Int)+(y.val:Int)).tmod (f.q:Int)=(((x.val+y.val)%f.q:Nat):Int):=by
  rw[Int.tmod_eq_emod_of_nonneg byO];rfl
 unfold fvf fv;apply stG rfl rfl;unfold Rq;simp[kB,aC];refine aA ?_;refine aK ?_ ?_<;>intro h
 .have c:f.poly≠0:=d.1 Ws
  refine aA ?_;refine aL ?_;refine⟨Ext.app _ _,?_⟩;unfold gA;rw[if_neg c];rfl
 .have c:f.poly=0:=by
   apply Decidable.byContradiction;intro e;have:=d.2 e;simp at h;omega
  refine aA ?_;refine aL ?_;refine⟨Ext.app _ _,?_⟩;unfold gA;rw[if_pos c];rfl
def u9(x y:El f):Ev cp lo 83 [fvf f,.int .i64 x.val,.int .i64 y.val] H λv H'=>Ext H H'/\v=.int .i64 (x-y).val:=by
 have k:=qle (f:=f);have l:=x.lt;have m:=y.lt;have e:(x-y).val=zQ f x.val y.val:=(Ce (OkC.ok (f:=f)) x.lt y.lt).symm;have d:=si<|OkC.ok (f:=f);rw[e];have i:=jT (a:=x.val) (b:=y.val) byO byO;have j:((x.val:Int)+f.q-y.val).tmod (f.q:Int)=(((x.val+f.q-y.val)%f.q:Nat):Int):=by
  rw[Int.tmod_eq_emod_of_nonneg byO,show(x.val:Int)+f.q-y.val=((x.val+f.q-y.val:Nat):Int) by omega];rfl
 unfold fvf fv;apply stG rfl rfl;unfold Rr;simp[kB,aC];refine aA ?_;refine aK ?_ ?_<;>intro h
 .have c:f.poly≠0:=d.1 Ws
  refine aA ?_;refine aL ?_;refine⟨Ext.app _ _,?_⟩;unfold zQ;rw[if_neg c];rfl
 .have c:f.poly=0:=by
   apply Decidable.byContradiction;intro g;have:=d.2 g;simp at h;omega
  refine aA ?_;refine aL ?_;refine⟨Ext.app _ _,?_⟩;unfold zQ;rw[if_pos c];rfl
def zp(b k:Nat):b%2^(k+1)=b%2^k ^^^ (if b/2^k%2=1 then 2^k else 0):=by
 apply Nat.eq_of_testBit_eq;intro i;rw[Nat.testBit_xor,Nat.testBit_mod_two_pow,Nat.testBit_mod_two_pow];by_cases c:b/2^k%2=1
 .rw[if_pos c,Nat.testBit_two_pow]
  have a:=rr.1 c;by_cases h:i=k
  .subst h;simp[a]
  .have d:decide (i<k+1)=decide (i<k):=by rw[Bool.eq_iff_iff];simp;omega
   have e:decide (k=i)=false:=Wr
   rw[d,e];simp
 .rw[if_neg c,Nat.zero_testBit]
  have a:b.testBit k=false:=by rw[Bool.eq_false_iff];exact λh=>c<|rr.2 h
  by_cases h:i=k
  .subst h;simp[a]
  .have d:decide (i<k+1)=decide (i<k):=by rw[Bool.eq_iff_iff];simp;omega
   rw[d];simp
def G0{a b:Nat}(e:a<4096)(g:b<4096):cl a b<2^30:=by
 have h:=Nn (a:=a) (b:=b);have c:∀n:Nat,n<4096->n.log2<=11:=by
  intro n k;by_cases d:n=0
  .rw[d];decide
  .have:=Nat.lt_of_le_of_lt (iA d) (show n<2^12 by omega)
   have:=(Nat.pow_lt_pow_iff_right (by omega:1<2)).1 this;omega
 have i:=c a e;have j:=c b g;exact bd₀ h<|Nat.pow_le_pow_right byO byO
def iC(x y:El f):Ev cp lo 84 [fvf f,.int .i64 x.val,.int .i64 y.val] H λv H'=>Ext H H'/\v=.int .i64 (x*y).val:=by
 have h2:=qle (f:=f);have hx:=x.lt;have hy:=y.lt;have w:=si<|OkC.ok (f:=f);rw[val_mul];generalize x.val=a at *;generalize y.val=b at *;unfold fvf fv;apply stG rfl rfl;unfold Rs;simp only[kB,aC];refine aA ?_;refine aK ?_ ?_<;>intro h
 .have j:f.poly=0:=by
   apply Decidable.byContradiction;intro O;have:=w.2 O;simp at h;omega
  clear h;have hm:=xy (a:=(a:Int)) (b:=(b:Int)) (A:=4096) (B:=4096) byO byO byO byO byO;have D:((a:Int)*(b:Int)).tmod (f.q:Int)=((a*b%f.q:Nat):Int):=by
   rw[<-Int.natCast_mul,Int.tmod_eq_emod_of_nonneg byO];rfl
  refine aA ?_;refine aL ?_;refine⟨Ext.app _ _,?_⟩;unfold fj;rw[if_pos j];rfl
 have j:f.poly≠0:=w.1 Ws;clear h;have i:fj f a b=rm (cl a b) f.poly:=by unfold fj;rw[if_neg j]
 have W:=sI<|OkC.ok (f:=f);have F:f.poly<2^13:=by
  rcases(OkC.ok (f:=f))with ⟨e,_⟩|⟨_,hP,u,hq,hi⟩
  .exact absurd e j
  .exact bd₀ (dM f.poly)<|Nat.pow_le_pow_right byO byO
 rw[i];clear i;generalize o:H++_=G at *;have Z:G.get H.length=some [Value.int .i64 (FD.ch f),Value.int .i64 f.q,Value.int .i64 f.poly]:=by rw[<-o];exact aI
 have t:Ext H G:=by rw[<-o];exact Ext.app _ _
 clear o;refine aA ?_;apply aj (λm S H'=>G=H'/\∃(k:Nat) (I J:Value),k<=12/\m=13-k/\S=[I,.int .i64 a,.int .i64 b,.pointer<|some ⟨H.length,0,none⟩,.int .i64 0,.int .i64 (cl a (b%2^k)),.int .i64 k,J]) 13
 .exact⟨rfl,0,_,_,byO,byO,by rw[show b%2^0=0 by omega,jL];rfl⟩
 rintro m S H' ⟨rfl,k,I,J,V,rfl,rfl⟩;have K:=nh b k .i64 (by show k<=64;omega);have U:=Nat.div_le_self b<|2^k;have L:=sU (b:=b/2^k) byO;have Q:a*2^k<2^24:=by
  have P:2^k<=2^12:=Nat.pow_le_pow_right byO V;have d:a*2^k<=4095*2^12:=Nat.mul_le_mul byO P;omega
 have M:=lh (a:=a) (k:=k) byO byO;have n:=Nat.mod_le b<|2^k;have g:=G0 (a:=a) (b:=b%2^k) byO byO;have N:=jT (a:=cl a<|b%2^k) (b:=a <<< k) byO XS;have c:=zp b k;(try simp only[aC]);refine aK ?_ ?_<;>intro h
 .have l:b/2^k≠0:=by have d:=of_decide_eq_true h;generalize b/2^k=z at *;omega
  clear h;have C:k<=11:=by
   apply Decidable.byContradiction;intro R;apply l;have:2^12<=2^k:=Nat.pow_le_pow_right byO byO;exact Nat.div_eq_of_lt byO
  (try simp only[aC]);refine aK ?_ ?_<;>intro h
  .have r:b/2^k%2=1:=by have d:=of_decide_eq_true h;generalize b/2^k%2=z at *;omega
   clear h;rw[if_pos r]at c;refine aA ?_;simp only[bJ];exact⟨13-(k+1),byO,We,k+1,_,_,byO,rfl,by rw[c,lK,jh];first|rfl|(simp only[ap₀,Int.natCast_one];rfl)⟩
  .have r:¬ b/2^k%2=1:=by have d:=of_decide_eq_false h;generalize b/2^k%2=z at *;omega
   clear h;rw[if_neg r,Nat.xor_zero]at c;refine aA ?_;simp only[bJ];exact⟨13-(k+1),byO,We,k+1,_,_,byO,rfl,by rw[c];first|rfl|(simp only[ap₀,Int.natCast_one];rfl)⟩
 .have X:b/2^k=0:=by have d:=of_decide_eq_false h;generalize b/2^k=z at *;omega
  clear h;have s:b%2^k=b:=by
   apply Nat.mod_eq_of_lt;rcases Nat.div_eq_zero_iff.1 X with d|d
   .have:0<2^k:=Nat.pow_pos byO;omega
   .exact d
  rw[s]at g ⊢;clear K L M N c;refine bV ?_;apply aB (OI (p:=cl a b) (q:=f.poly) byO byO j);rintro v Y ⟨rfl,rfl⟩;refine aA ?_;refine aL ?_;exact⟨t,rfl⟩
end
def ris{ch sz po x:Int}:Ev cp lo 126 [fv ch sz po,.int .i64 x] H λv H'=>Ext H H'/\v=.bool (decide (0<=x)&&decide (x<sz)):=by unfold fv;apply stG rfl rfl;unfold Mf;simp[kB,aC];refine aA ?_;refine aL ?_;exact⟨Ext.app _ _,rfl⟩
section
variable {f:FD}[OkC f]
theorem Qd(a:El f)(n:Nat):pw (a*a) n=pw a (2*n):=by rw[eG];congr 1;rw[fJ,uY]
def fvC(f:FD):XV:=[.int .i64 (FD.ch f),.int .i64 f.q,.int .i64 f.poly]
def Bj(a:El f)(n:Nat)(F:n<=1000000000000):Ev cp lo 174 [fvf f,.int .i64 a.val,.int .i64 n] H λv H'=>Ext H H'/\v=.int .i64 (pw a n).val:=by
 unfold fvf fv;apply stG rfl rfl;unfold NK;simp[kB,aC];refine aA ?_;generalize s:H++_=G at *;have b:G.get H.length=some (fvC f):=by rw[<-s];exact aI
 have l:Ext H G:=by rw[<-s];exact Ext.app _ _
 clear s;apply aj (λm S H'=>Ext H H'/\H'.get H.length=some (fvC f)/\∃(x p:El f) (o q r:Value),m<=n/\p*pw x m=pw a n/\S=[o,.int .i64 x.val,.int .i64 m,.pointer<|some ⟨H.length,0,none⟩,.int .i64 0,.int .i64 p.val,q,r]) n
 .exact⟨l,b,a,1,_,_,_,Nat.le_refl _,one_mul _,rfl⟩
 clear b l;rintro m S z ⟨d,b,x,p,o,q,r,D,c,rfl⟩;unfold fvC at b;(try simp only[aC]);refine aK ?_ ?_<;>intro h
 .have i:0<m:=Wy
  clear h;have B:(m:Int).tmod 2=((m%2:Nat):Int):=Xz
  have C:(m:Int).tdiv 2=((m/2:Nat):Int):=by rw[Int.tdiv_eq_ediv_of_nonneg byO];rfl
  (try simp only[aC]);apply pz (λu H'=>Ext H H'/\H'.get H.length=some (fvC f)/\∃(o q r:Value),u=[o,.int .i64 x.val,.int .i64 m,.pointer<|some ⟨H.length,0,none⟩,.int .i64 0,.int .i64 (if m%2=1 then p*x else p).val,q,r])
  .refine aK ?_ ?_<;>intro h
   .have g:m%2=1:=Ws
    clear h;refine bV ?_;apply aB (iC p x);rintro v w ⟨e,rfl⟩;have b:=e.get b;refine aA ?_;exact⟨d.trans e,b,_,_,_,by rw[if_pos g]⟩
   .have g:¬ m%2=1:=Ws
    clear h;exact⟨d,b,_,_,_,by rw[if_neg g]⟩
  clear b d;rintro u w ⟨e,b,o,q,r,rfl⟩;unfold fvC at b;generalize t:(if m%2=1 then p*x else p)=y at *;refine bV ?_;apply aB (iC x x);rintro v A ⟨j,rfl⟩;have b:=j.get b;refine aA ?_;simp only[bJ];refine⟨m/2,byO,e.trans j,b,x*x,y,_,_,_,byO,?_,rfl⟩;rw[<-c,Qd,<-t];by_cases g:m%2=1
  .rw[if_pos g,mul_assoc]
   congr 1;obtain⟨k,rfl⟩:∃k,m=2*k+1:=⟨m/2,byO⟩;rw[show(2*k+1)/2=k by omega,fJ,mul_comm]
  .rw[if_neg g,show 2*(m/2)=m by omega]
 .have i:m=0:=Ws
  clear h;rw[i,ic,mul_one]at c;refine aA ?_;refine aL ?_;exact⟨d,by rw[<-c];rfl⟩
theorem Sy{a:El f}(c:a≠0):pw a (f.q-1)=1:=by have⟨g,b⟩:=Ny<|OkC.ok (f:=f);obtain⟨n,_,rfl⟩:=pow_sur (mF b) (eg b) c;rw[<-eG,bb₀,eG,(eg b).2.1,jF]
theorem P8{a:El f}(b:a≠0):pw a (f.q-2)=inv a:=by
 have c:=qle (f:=f)
 symm
 apply nT;rw[mul_comm,<-fJ,show f.q-2+1=f.q-1 by omega,Sy b]
def mz(a:El f)(c:a≠0):Ev cp lo 148 [fvf f,.int .i64 a.val] H λv H'=>Ext H H'/\v=.int .i64 (inv a).val:=by have g:=qle (f:=f);have e:((f.q:Int)-2)=((f.q-2:Nat):Int):=byO;rw[<-P8 c];unfold fvf fv;apply stG rfl rfl;unfold Mx;simp[kB,aC];refine aA ?_;refine ay ?_;apply aB (Bj a (f.q-2) byO);rintro v d ⟨b,rfl⟩;refine aA ?_;refine aL ?_;exact⟨b.of_app,rfl⟩
def Qm{a:El f}{n:Nat}(l:Ord a n)(u:n<f.q):Ev cp lo 202 [fvf f,.int .i64 a.val] H λv H'=>Ext H H'/\v=.int .i64 n:=by
 have y:=qle (f:=f);unfold fvf fv;apply stG rfl rfl;unfold N8;simp[kB,aC];refine aA ?_;generalize i:H++_=G at *;have c:G.get H.length=some (fvC f):=by rw[<-i];exact aI
 have g:Ext H G:=by rw[<-i];exact Ext.app _ _
 apply aj (λm S H'=>∃(k:Nat) (o p:Value),1<=k/\k<=n/\m=n-k/\Ext H H'/\H'.get H.length=some (fvC f)/\S=[o,.int .i64 a.val,.pointer<|some ⟨H.length,0,none⟩,.int .i64 0,.int .i64 k,.int .i64 (pw a k).val,p]) (n-1)
 .exact⟨1,_,_,byO,l.1,rfl,g,c,by rw[uY];rfl⟩
 rintro m S w ⟨k,o,p,r,s,rfl,e,c,rfl⟩;unfold fvC at c;refine aK ?_ ?_<;>intro h
 .have d:(pw a k).val≠1:=Ws
  have t:k<n:=by
   apply Decidable.byContradiction;intro q;have:k=n:=byO;rw[this,l.2.1]at d;exact d rfl
  refine bV ?_;apply aB (iC (pw a k) a);rintro v x ⟨b,rfl⟩;have c:=b.get c;have b:=e.trans b;refine aA ?_;simp only[bJ];exact⟨n-(k+1),byO,k+1,_,_,byO,byO,rfl,b,c,ncM⟩
 .have j:k=n:=by
   apply Decidable.byContradiction;intro q;apply l.2.2 k byO byO;apply El.ext;rw[Ja];simp at h;omega
  refine aA ?_;refine aL ?_;exact⟨e,by rw[<-j];rfl⟩
def uc{g:El f}(i:Gn (OkC.ok (f:=f)) g):Ev cp lo 173 [fvf f] H λv H'=>Ext H H'/\v=.int .i64 g.val:=by
 have I:=qle (f:=f);have y:=g.lt;unfold fvf fv;apply stG rfl rfl;unfold NJ;simp[kB,aC];refine aA ?_;generalize j:H++_=G at *;have b:G.get H.length=some (fvC f):=by rw[<-j];exact aI
 have d:Ext H G:=by rw[<-j];exact Ext.app _ _
 have z:=i.pos;apply aj (λm S H'=>∃(k:Nat) (s t u:Value),1<=k/\k<=g.val/\m=g.val-k/\Ext H H'/\H'.get H.length=some (fvC f)/\S=[s,.pointer<|some ⟨H.length,0,none⟩,.int .i64 0,.int .i64 k,t,u]) (g.val-1)
 .exact⟨1,_,_,_,byO,byO,rfl,d,b,rfl⟩
 rintro m S D ⟨k,s,t,u,l,A,rfl,r,b,rfl⟩;obtain⟨n,c,C⟩:∃n,Ord (⟨k,byO⟩:El f) n/\n<=f.q-1:=by
  refine(OkC.ok (f:=f)).num.ord ⟨k,byO⟩ λe=>?_;have:k=0:=congrArg El.val e;omega
 unfold fvC at b;refine aK ?_ ?_<;>intro h;rotate_left
 .simp at h;omega
 refine bV ?_;refine aS (Qm c byO) ?_;rintro v F ⟨a,rfl⟩;have b:=a.get b;have a:=r.trans a;(try simp only[aC]);refine aK ?_ ?_<;>intro h
 .have x:n=f.q-1:=Ws
  have p:k=g.val:=by
   apply Decidable.byContradiction;intro w;rw[x]at c;exact i.min ⟨k,byO⟩ l (by show k<g.val;omega) c
  refine aA ?_;refine aL ?_;exact⟨a,by rw[<-p];rfl⟩
 .have q:n≠f.q-1:=Ws
  have B:k<g.val:=by
   apply Decidable.byContradiction;intro w;have o:(⟨k,byO⟩:El f)=g:=El.ext (by show k=g.val;omega);rw[o]at c;exact q<|Nat.dvd_antisymm (jP c (eg i).2.1)<|jP (eg i) c.2.1
  refine aA ?_;simp only[bJ];exact⟨g.val-(k+1),byO,k+1,_,_,_,byO,byO,rfl,a,b,ncM⟩
end
end
variable{H:Heap}{lo:Nat}{v:Value}
section
variable {f:FD}[OkC f]
theorem A7(n:Nat)(F:Nat->El f):tab (n+1) F=tab n F++[F n]:=by simp[tab,List.range_succ]
theorem mW(l:List<|El f)(x:El f):elL (l++[x])=elL l++[rf x]:=by simp[elL]
namespace XHd
def xtr:=zzi @Int.cast_ofNat_Int<|zzi @fv.eq_1<|zzi @fvf.eq_1<|zzi @fvC.eq_1<|zzi @cdC.eq_1<|zzi @lN<|zzi @cX<|zzi @gu @jU
end XHd
open XHd
def Ql{g:El f}(G:lo<=H.length)(C:Gn (OkC.ok (f:=f)) g)(r b:Nat)(L:r<=100000000)(K:b<=100000000):Ev cp lo 127 [cdV f r b] H λv H'=>Ext H H'/\SlE H' v (tab r λi=>pw g<|b+i):=by
 unfold cdV;apply stG rfl rfl;unfold Mg;simp only[kB,aC];refine aA ?_;refine ay ?_;apply aB (uc C);rintro v n ⟨a,rfl⟩;have p:n.get H.length=some _:=a.get aM;have a:=a.of_app;refine aA ?_;refine ay ?_;apply aB (Bj g b byO);rintro v B ⟨e,rfl⟩;have p:=e.get p;have e:=a.trans e;have w:=Heap.get_lt p;refine aA ?_;apply aP (λi S H'=>Ext H H'/\H'.get H.length=some (cdC f r b)/\∃u o,H.length<o/\Own lo 1 H' u o (elL<|tab i λk=>pw g<|b+k)/\∃(z:Nat->Value),S=[z 0,.pointer<|some ⟨H.length,0,none⟩,.slice none 0 0,.int .i64 g.val,u,.int .i64 (pw g<|b+i).val,.int .i64 i,z 7,z 8,z 9,z 10,z 11,z 12]) r
 .exact⟨e,p,_,B.length,byO,Own.nil (by have:=e.1;omega),aH rfl⟩
 .rintro i S H' D ⟨M,l,u,o,q,d,z,rfl⟩
  exact⟨_,aM,Wc⟩
 .clear p e a w
  rintro i S n D ⟨a,l,u,o,q,d,z,rfl⟩;have F:=a.1;have s:=aJ i λk=>pw g<|b+k;refine aA ?_;refine ay ?_;apply dD (c:=[rf<|pw g<|b+i]) (d.mono<|Ext.app _ _) Wr byO byO (by rw[cX,s];omega) aI Wc rfl rfl;rintro N I h A x;have y:=Ext.app n [some [Value.int .i64 (pw g<|b+i).val]];have t:=A.ext (a.trans y) byO;have l:=A.get (y.get l) byO;simp only[as₀,ak₀,an₀]at h;have x:=t.1;clear s;refine aA ?_;refine ay ?_;apply aB (iC (pw g<|b+i) g);rintro v J ⟨j,rfl⟩;have l:=j.get l;have m:=h.mono j;have j:=t.trans j;refine aA ?_;exact⟨j,l,_,n.length+(0+1),byO,by rw[A7,mW];exact m,aH ncM⟩
 .rintro S n ⟨a,l,u,o,q,d,z,rfl⟩
  refine aA ?_;refine aL ?_;exact⟨a,Sl.ofOwn d⟩
def RN{w:List<|El f}(F:lo<=H.length)(A:SlE H v w)(J:w.length<=1000000000)(x:El f):Ev cp lo 190 [fvf f,v,.int .i64 x.val] H λv H'=>Ext H H'/\v=.int .i64 (dK w x).val:=by
 have t:=A;obtain⟨C,c,rfl⟩:=A.len;unfold fvf fv;apply stG rfl rfl;unfold NY;simp[kB,aC];refine aA ?_;generalize r:H++_=G at *;have u:G.get H.length=some (fvC f):=by rw[<-r];exact aI
 have l:Ext H G:=by rw[<-r];exact Ext.app _ _
 apply aP (λi S H'=>Ext H H'/\H'.get H.length=some (fvC f)/\∃m n p q h,S=[m,.slice C w.length c,.int .i64 x.val,.pointer<|some ⟨H.length,0,none⟩,.int .i64 0,.int .i64 (dK (w.take i) x).val,.int .i64 i,n,p,q,h]) w.length
 .exact⟨l,u,_,_,_,_,_,rfl⟩
 .rintro i S H' s ⟨N,j,m,n,p,q,h,rfl⟩
  exact⟨_,aM,Wc⟩
 .clear u l
  rintro i S B s ⟨a,j,m,n,p,q,h,rfl⟩;have⟨b,o,sp,D,xs,e,y,k,K⟩:=eS t byO;cases e;have y:=a.get y;have z:=k i s;have I:=ma s x;refine bV ?_;refine aS (iC (dK (w.take i) x) x) ?_;rintro v L ⟨d,rfl⟩;have j:=d.get j;have d:=a.trans d;refine bV ?_;apply aB (DZ _<|co w i);rintro v M ⟨g,rfl⟩;have j:=g.get j;have g:=d.trans g;refine aA ?_;exact⟨g,j,_,_,_,_,_,by rw[I];first|rfl|(simp[ap₀,Int.natCast_one];rfl)|simp[ap₀,Int.natCast_one]⟩
 .rintro S B ⟨a,j,m,n,p,q,h,rfl⟩
  rw[List.take_length];refine aA ?_;refine aL ?_;exact⟨a,rfl⟩
def Is{p:List<|El f}(N:lo<=H.length)(A:SlE H v p)(O:p.length<=1000000000)(x:El f):Ev cp lo 147 [fvf f,v,.int .i64 x.val] H λv H'=>Ext H H'/\v=.int .i64 (hor p x).val:=by
 have u:=A;obtain⟨I,c,rfl⟩:=A.len;unfold fvf fv;apply stG rfl rfl;unfold Mw;simp[kB,aC];refine aA ?_;generalize s:H++_=G at *;have i:G.get H.length=some (fvC f):=by rw[<-s];exact aI
 have q:Ext H G:=by rw[<-s];exact Ext.app _ _
 apply aj (λm S H'=>∃(k:Nat) (B C D F r:Value),k<=p.length/\m=k/\Ext H H'/\H'.get H.length=some (fvC f)/\S=[B,.slice I p.length c,.int .i64 x.val,.pointer<|some ⟨H.length,0,none⟩,.int .i64 0,.int .i64 (hor (p.drop k) x).val,.int .i64<|(k:Int)-1,C,D,F,r]) p.length
 .exact⟨p.length,_,_,_,_,_,Nat.le_refl _,rfl,q,i,by rw[List.drop_length];rfl⟩
 rintro m S Q ⟨k,B,C,D,F,r,V,rfl,d,i,rfl⟩;have L:=d.1;(try simp only[aC]);refine aK ?_ ?_<;>intro h
 .have l:0<m:=Ws
  obtain⟨n,rfl⟩:∃n,m=n+1:=⟨m-1,byO⟩;have z:n<p.length:=byO;have⟨b,o,sp,J,xs,e,w,j,P⟩:=eS u byO;cases e;have w:=d.get w;have y:=j n z;have K:(((n+1:Nat):Int)-1)=(n:Int):=byO;have t:=td z x;rw[K];refine bV ?_;refine aS (iC (hor (p.drop<|n+1) x) x) ?_;rintro v R ⟨a,rfl⟩;have i:=a.get i;have a:=d.trans a;have M:=a.1;refine bV ?_;apply aB (DZ _<|co p n);rintro v U ⟨g,rfl⟩;have i:=g.get i;have g:=a.trans g;refine aA ?_;simp only[bJ];exact⟨n,byO,n,_,_,_,_,_,byO,rfl,g,i,by rw[t]⟩
 .have l:m=0:=Ws
  subst l;refine aA ?_;refine aL ?_;exact⟨d,rfl⟩
def ur{g:El f}{w:List<|El f}(j0:lo<=H.length)(Y:Gn (OkC.ok (f:=f)) g)(N:SlE H v w)(l0:w.length<=100000000)(r b:Nat)(hr:r<=100000000)(X:b<=100000000) :
  Ev cp lo 144 [cdV f r b,v] H λv H'=>Ext H H'/\SlE H' v (ft g r b w):=by
 have I:=N;obtain⟨Q,V,rfl⟩:=N.len;unfold cdV;apply stG rfl rfl;unfold Ms;simp[kB,aC];refine aA ?_;generalize B:H++_=G at *;have y:G.get H.length=some (cdC f r b):=by rw[<-B];exact aI
 have u:Ext H G:=by rw[<-B];exact Ext.app _ _
 have a0:=u.1;refine ay ?_;apply aB (Ql byO Y r b hr X);rintro v A ⟨k,h⟩;have y:=k.get y;have k:=u.trans k;have F:=h;have n:=aJ r λi=>pw g<|b+i;obtain⟨P,U,rfl⟩:=h.len;rw[n];have b0:=Heap.get_lt y;refine aA ?_;apply aP (λi S H'=>Ext A H'/\∃x p,A.length<=p/\Own lo 1 H' x p (elL<|ft g i b w)/\∃(z:Nat->Value),S=[z 0,.slice Q w.length V,.pointer<|some ⟨H.length,0,none⟩,.slice none 0 0,.slice P r U,x,.int .i64 i,z 7,z 8,z 9,z 10,z 11]) r
 .exact⟨Ext.refl _,_,A.length,Nat.le_refl _,Own.nil byO,aH rfl⟩
 .rintro i S H' D ⟨hx,x,p,s,a,z,rfl⟩
  exact⟨_,aM,Wc⟩
 .rintro i S O D ⟨d,x,p,s,a,z,rfl⟩
  have c0:=d.1;have⟨b',o,sp,R,xs,e,M,m,K⟩:=eS F (by rw[n];omega);cases e;rw[n]at m K;have M:=d.get M;have f0:=d.get y;have q:=m i D;have C:co (tab r λi=>pw g<|b+i) i=pw g (b+i):=by rw[dm,if_pos D]
  rw[C]at q;refine bV ?_;apply aB (RN byO (I.mono<|k.trans d) byO<|pw g<|b+i);rintro v L ⟨l,rfl⟩;have a:=a.mono l;have l:=d.trans l;have e0:=l.1;have t:(ft g i b w).length=i:=aJ _ _;refine aA ?_;refine ay ?_;apply dD (c:=[rf<|dK w<|pw g<|b+i]) (a.mono<|Ext.app _ _) Wr byO byO (by rw[cX,t];omega) aI Wc rfl rfl;rintro v' H4 j Z h0;have W:=Ext.app L [some [Value.int .i64 ((dK w<|pw g<|b+i).val:Nat)]];have J:=Z.ext (l.trans W) byO;simp[as₀,ak₀,an₀]at j;refine aA ?_;exact⟨J,_,L.length+(0+1),byO,by unfold ft;rw[A7,mW];exact j,aH ncM⟩
 .rintro S O ⟨d,x,p,s,a,z,rfl⟩
  refine aA ?_;refine aL ?_;exact⟨k.trans d,Sl.ofOwn a⟩
def atV{p:List<|El f}(j:SlE H v p)(i:Nat):Ev cp lo 191 [v,.int .i64 i] H λv H'=>H'=H/\v=.int .i64 (co p i).val:=by
 have d:=j;obtain⟨m,c,rfl⟩:=j.len;apply stG rfl rfl;unfold NZ;simp[kB,aC];refine aA ?_;refine aK ?_ ?_<;>intro h
 .have b:i<p.length:=Ws
  have⟨n,o,sp,k,xs,e,q,a,l⟩:=eS d byO;cases e;have g:=a i b;refine aA ?_;refine aL ?_;exact⟨rfl,rfl⟩
 .have b:p.length<=i:=Ws
  refine aA ?_;refine aL ?_;exact⟨rfl,by rw[mM b];rfl⟩
def Sf{vp vq:Value}{p q:List<|El f}(c0:lo<=H.length)(hp:SlE H vp p)(hq:SlE H vq q)(e0:p.length<=100000000)(h0:q.length<=100000000)(n:Nat)(hn:n<=100000000)(c:El f) :
  Ev cp lo 192 [fvf f,vp,vq,.int .i64 c.val,.int .i64 n] H λv H'=>Ext H H'/\∃b,H.length<=b/\v=.slice (some ⟨b,0,none⟩) (oD p q n c).length (oD p q n c).length/\H'.get b=some (elL<|oD p q n c):=by
 have Q:=hp;have R:=hq;have U:(oD p q n c).length=max p.length (q.length+n):=aJ _ _;obtain⟨X,r,rfl⟩:=hp.len;obtain⟨Y,Z,rfl⟩:=hq.len;have P:=λ(H:Heap)=>Cw (H:=H) p.length<|q.length+n;rw[U];unfold fvf fv;have hN:max p.length (q.length+n)<=200000000:=byO;have l:((q.length:Int)+(n:Int))=((q.length+n:Nat):Int):=byO;apply stG rfl rfl;unfold N0;simp only[kB,aC];refine aA ?_;generalize K:H++_=G at *;have g0:G.get H.length=some (fvC f):=by rw[<-K];exact aI
 have g1:G.get (H.length+1)=some (elL<|tab (max p.length<|q.length+n) λ_=>(0:El f)):=by rw[<-K,bI,gH];rfl
 have s:Ext H G:=by rw[<-K];exact Ext.app _ _
 clear K P l;generalize L:max p.length (q.length+n)=N at *;apply aP (λi S H'=>Ext H H'/\H'.get H.length=some (fvC f)/\H'.get (H.length+1)=some (elL<|tab N λk=>if k<i then co p k-c*sh n (co q) k else 0)/\∃(z:Nat->Value),S=[z 0,.slice X p.length r,.slice Y q.length Z,.int .i64 c.val,.int .i64 n,.pointer<|some ⟨H.length,0,none⟩,.slice none 0 0,.slice (some ⟨H.length+1,0,none⟩) N N,.int .i64 i,z 9,z 10,z 11,z 12,z 13,z 14,z 15,z 16,z 17,z 18,z 19,z 20]) N
 .refine⟨s,g0,?_,aH rfl⟩
  rw[g1];apply congrArg (λt=>some<|elL t);exact ag λk _=>(if_neg byO).symm
 .rintro i S H' hi ⟨hx,o,j,z,rfl⟩
  exact⟨_,aM,Wc⟩
 .clear g0 g1 s
  rintro i S W hi ⟨g,o,j,z,rfl⟩;have a0:(tab N λk=>if k<i then co p k-c*sh n (co q) k else 0).set i (co p i-c*sh n (co q) i)=tab N λk=>if k<i+1 then co p k-c*sh n (co q) k else 0:=by
   rw[lq];refine ag λk hk=>?_;by_cases e:k=i
   .rw[if_pos e,if_pos byO,e]
   .rw[if_neg e]
    by_cases h2:k<i
    .rw[if_pos h2,if_pos byO]
    .rw[if_neg h2,if_neg byO]
  have O:(tab N λk=>if k<i then co p k-c*sh n (co q) k else 0).length<=N/\N<=(tab N λk=>if k<i then co p k-c*sh n (co q) k else 0).length:=Xc
  generalize tab N (λk=>if k<i then co p k-c*sh n (co q) k else 0)=T at *;refine aA ?_;apply pz (λS H'=>Ext W H'/\∃z0 u w x y A B C D F I J,S=[z0,.slice X p.length r,.slice Y q.length Z,.int .i64 c.val,.int .i64 n,.pointer<|some ⟨H.length,0,none⟩,.slice none 0 0,.slice (some ⟨H.length+1,0,none⟩) N N,.int .i64 i,.int .i64 (c*sh n (co q) i).val,u,w,x,y,A,B,C,D,F,I,J])
  .refine aK ?_ ?_<;>intro h
   .have M:n<=i:=Ws
    clear h;have e1:((i:Int)-(n:Int))=((i-n:Nat):Int):=byO;have m:=lA (co q) M;refine bV ?_;refine aS (atV (R.mono g)<|i-n) ?_;rintro v H2 ⟨rfl,rfl⟩;refine bV ?_;apply aB (iC c<|co q<|i-n);rintro v H3 ⟨V,rfl⟩;refine aA ?_;exact⟨V,_,_,_,_,_,_,_,_,_,_,_,_,by rw[m]⟩
   .have M:i<n:=Ws
    clear h;have m:=nD (co q) M;(try simp only[aC]);exact⟨Ext.refl _,_,_,_,_,_,_,_,_,_,_,_,_,by rw[m,mul_zero];rfl⟩
  rintro S H2 ⟨a,z0,u,w,x,y,A,B,C,D,F,I,J,rfl⟩;have o:=a.get o;have j:=a.get j;have a:=g.trans a;refine bV ?_;refine aS (atV (Q.mono a) i) ?_;rintro v H3 ⟨rfl,rfl⟩;refine bV ?_;refine aB (u9 (co p i)<|c*sh n (co q) i) ?_;rintro v H4 ⟨d,rfl⟩;have o:=d.get o;have j:=d.get j;have d:=a.trans d;have b0:=Heap.get_lt j;refine aA ?_;exact⟨d.set (by omega),Ww,by rw[aE (by omega)],aH ncM⟩
 .rintro S W ⟨g,o,j,z,rfl⟩
  refine aA ?_;refine aL ?_;refine⟨g,H.length+1,byO,rfl,?_⟩;rw[j];unfold oD;rw[L];exact congrArg (λt=>some<|elL t)<|ag λk hk=>if_pos hk
end
section
variable {f:FD}[OkC f]
namespace XHe
def xtr:=zzi @Int.cast_ofNat_Int<|zzi @fv.eq_1<|zzi @fvf.eq_1<|zzi @fvC.eq_1<|zzi @cdC.eq_1<|zzi @lN<|zzi @cX<|zzi @gu<|zzi @jU @ite_self.{1}
end XHe
open XHe
def IV{s:List<|El f}(X1:lo<=H.length)(hs:SlE H v s)(a2:s.length<=10000000) :
  Ev cp lo 146 [fvf f,v] H λv H'=>Ext H H'/\∃vl,v=.tuple #[vl,.int .i64 (Reg.run (co s) s.length).L]/\SlE H' vl (xl s):=by
 have y1:=hs;obtain⟨av,s0,rfl⟩:=hs.len;unfold fvf fv;refine stG rfl rfl ?_;unfold Mu;simp only[kB,aC];refine aA ?_;generalize hG:H++_=G at *;have g0:G.get H.length=some (fvC f):=XE
 have g1:G.get (H.length+1)=some (elL<|tab 1 (s1:Ser<|El f)):=XH
 have g2:G.get (H.length+2)=some (elL<|tab 1 (s1:Ser<|El f)):=XH
 have T0:Ext H G:=Xh
 clear hG;refine aP (λn S H'=>Ext H H'/\H'.get H.length=some (fvC f)/\∃b1 b2,H'.get b1=some (elL<|tab (bml (co s) n).1 (Reg.run (co s) n).C)/\H'.get b2=some (elL<|tab (bml (co s) n).2 (Reg.run (co s) n).B)/\∃z0 a0 b0 q r t u w x y z A D F I J K M N O P Q,S=[z0,.slice av s.length s0,.pointer<|some ⟨H.length,0,none⟩,.slice none 0 0,.int .i64 0,.slice (some ⟨b1,0,none⟩) (bml (co s) n).1 (bml (co s) n).1,.slice (some ⟨b2,0,none⟩) (bml (co s) n).2 (bml (co s) n).2,.int .i64 (Reg.run (co s) n).L,.int .i64 (Reg.run (co s) n).m,.int .i64 (Reg.run (co s) n).b.val,.int .i64 n,a0,b0,q,r,t,u,w,x,y,z,A,D,F,I,J,K,M,N,O,P,Q]) s.length ?_ ?_ ?_ ?_
 .exact⟨T0,g0,H.length+1,H.length+2,g1,g2,_,_,_,_,_,_,_,_,_,_,_,_,_,_,_,_,_,_,_,_,_,_,rfl⟩
 .rintro n S H' hn ⟨hx,Y,b1,b2,W,X,z0,a0,b0,q,r,t,u,w,x,y,z,A,D,F,I,J,K,M,N,O,P,Q,rfl⟩
  exact⟨_,aM,Wc⟩
 .clear g0 g1 g2 T0
  rintro n S H1 hn ⟨p,Y,b1,b2,W,X,z0,a0,b0,q,r,t,u,w,x,y,z,A,D,F,I,J,K,M,N,O,P,Q,rfl⟩;have U:=iy (co s) n;obtain⟨Y0,Z0,o0⟩:=oQ (co s) n;obtain⟨h1,j1,r0⟩:=qA (co s) n;have hd:=C1 (s:=s) (n:=n) (lenC:=(Reg.run (co s) n).L+1) (Reg.run (co s) n).C U.gen.deg (λi hi=>U.gen.deg i byO) o0;rw[Nat.min_self]at hd;have c:=bml.eq_2 (co s) n;have a:Reg.run (co s) (n+1)=(Reg.run (co s) n).next (co s) n:=rfl;unfold Reg.next at a;have p1:=U.b;have Z1:=U.mp;have F1:=U.gen.deg;clear U;generalize hR:Reg.run (co s) n=R at *;generalize x0:(bml (co s) n).1=l1 at *;generalize y0:(bml (co s) n).2=l2 at *;have c0:∀i,co (tab l1 R.C) i=R.C i:=by
   intro i;rw[dm];split
   .rfl
   .exact(h1 i byO).symm
  refine aA ?_;refine ij (λS H'=>Ext H H'/\H'.get H.length=some (fvC f)/\H'.get b1=some (elL<|tab l1 R.C)/\H'.get b2=some (elL<|tab l2 R.B)/\∃j z0 q r t u w x y z A D F I J K M N O P Q,j=R.L+1/\S=[z0,.slice av s.length s0,.pointer<|some ⟨H.length,0,none⟩,.slice none 0 0,.int .i64 0,.slice (some ⟨b1,0,none⟩) l1 l1,.slice (some ⟨b2,0,none⟩) l2 l2,.int .i64 R.L,.int .i64 R.m,.int .i64 R.b.val,.int .i64 n,.int .i64 ((sm j λi=>R.C i*co s (n-i)).val:Nat),.int .i64 j,q,r,t,u,w,x,y,z,A,D,F,I,J,K,M,N,O,P,Q]) ?_ ?_
  .refine aP (λj S H'=>Ext H H'/\H'.get H.length=some (fvC f)/\H'.get b1=some (elL<|tab l1 R.C)/\H'.get b2=some (elL<|tab l2 R.B)/\∃z0 q r t u w x y z A D F I J K M N O P Q,S=[z0,.slice av s.length s0,.pointer<|some ⟨H.length,0,none⟩,.slice none 0 0,.int .i64 0,.slice (some ⟨b1,0,none⟩) l1 l1,.slice (some ⟨b2,0,none⟩) l2 l2,.int .i64 R.L,.int .i64 R.m,.int .i64 R.b.val,.int .i64 n,.int .i64 ((sm j λi=>R.C i*co s (n-i)).val:Nat),.int .i64 j,q,r,t,u,w,x,y,z,A,D,F,I,J,K,M,N,O,P,Q]) (R.L+1) ?_ ?_ ?_ ?_
   .exact⟨p,Y,W,X,_,_,_,_,_,_,_,_,_,_,_,_,_,_,_,_,_,_,_,_,rfl⟩
   .rintro j S H' hj ⟨hx,Y,W,X,z0,q,r,t,u,w,x,y,z,A,D,F,I,J,K,M,N,O,P,Q,rfl⟩
    exact⟨_,aM,Wr⟩
   .clear p Y W X
    rintro j S H1 hj ⟨p,Y,W,X,z0,q,r,t,u,w,x,y,z,A,D,F,I,J,K,M,N,O,P,Q,rfl⟩;obtain⟨bb,o,sp,L1,xs,e,gx,X0,e2⟩:=eS y1 byO;cases e;have gx:=p.get gx;have B1:=X0 (n-j) byO;have x1:((n:Int)-(j:Int))=((n-j:Nat):Int):=byO;have A1:=uk j λi=>R.C i*co s (n-i);have hl:=p.1;have j0:=bO (sp:=none) W<|aJ l1 R.C;have r1:=c0 j;clear X0 hd c a hR x0 y0 c0;refine bV ?_;refine aS (atV j0 j) ?_;rintro v H2 ⟨rfl,rfl⟩;rw[r1];refine bV ?_;refine aS (iC (R.C j)<|co s<|n-j) ?_;rintro v H2 ⟨g,rfl⟩;have Y:=g.get Y;have W:=g.get W;have X:=g.get X;have g:=p.trans g;refine bV ?_;refine aB (DZ (sm j λi=>R.C i*co s (n-i))<|R.C j*co s (n-j)) ?_;rintro v H3 ⟨V,rfl⟩;have Y:=V.get Y;have W:=V.get W;have X:=V.get X;have V:=g.trans V;clear x1;refine aA ?_;exact⟨V,Y,W,X,_,_,_,_,_,_,_,_,_,_,_,_,_,_,_,_,_,_,_,_,by rw[A1];first|rfl|(simp only[ap₀,Int.natCast_one];rfl)|simp only[ap₀,Int.natCast_one]⟩
   .rintro S H1 ⟨p,Y,W,X,z0,q,r,t,u,w,x,y,z,A,D,F,I,J,K,M,N,O,P,Q,rfl⟩
    exact⟨p,Y,W,X,_,_,_,_,_,_,_,_,_,_,_,_,_,_,_,_,_,_,_,_,_,rfl,rfl⟩
  clear p Y W X;rintro S H1 ⟨p,Y,W,X,j,z0,q,r,t,u,w,x,y,z,A,D,F,I,J,K,M,N,O,P,Q,rfl,rfl⟩;rw[hd];generalize hD:cv R.C (co s) n=d at *;have T1:=d.lt;clear hd;(try simp only[aC]);refine aK ?_ ?_<;>intro h
  .have w0:d=0:=fR Ws
   clear h;rw[if_pos w0]at c a;refine aA ?_;exact⟨p,Y,b1,b2,by rw[a,c,x0];exact W,by rw[a,c,y0];exact X,_,_,_,_,_,_,_,_,_,_,_,_,_,_,_,_,_,_,_,_,_,_,by rw[a,c,x0,y0];first|rfl|(simp only[ap₀,Int.natCast_one];rfl)|simp only[ap₀,Int.natCast_one]⟩
  have w0:d≠0:=λe=>by rw[e,nK]at h;simp at h
  clear h;rw[if_neg w0]at c a;have hl:=p.1;refine bV ?_;refine aS (mz R.b p1) ?_;rintro v H2 ⟨g,rfl⟩;have Y:=g.get Y;have W:=g.get W;have X:=g.get X;have g:=p.trans g;refine bV ?_;refine aS (iC d<|inv R.b) ?_;rintro v K1 ⟨Z,rfl⟩;have Y:=(Z).get Y;have W:=(Z).get W;have X:=(Z).get X;have g:=g.trans Z;clear Z;have G1:=g.1;have j0:=bO (sp:=none) W<|aJ l1 R.C;have e1:=bO (sp:=none) X<|aJ l2 R.B;refine bV ?_;refine aB (Sf byO j0 e1 Xc Xc R.m byO<|d*inv R.b) ?_;rintro v H3 ⟨V,b3,S1,rfl,f3⟩;have Y:=V.get Y;have W:=V.get W;have X:=V.get X;have V:=g.trans V;have e0:oD (tab l1 R.C) (tab l2 R.B) R.m (d*inv R.b)=tab (max l1<|l2+R.m) λi=>R.C i-d*inv R.b*sh R.m R.B i:=by
   unfold oD;rw[aJ,aJ];refine ag λk hk=>?_;rw[c0];congr 1;congr 1;unfold sh;split
   .rw[dm]
    split
    .rfl
    .exact(j1 _ byO).symm
   .rfl
  rw[e0,aJ];rw[e0]at f3;clear e0 j0 e1 c0;have q1:((n+1-R.L:Nat):Int)=(n:Int)+1-(R.L:Nat):=byO;refine aA ?_;by_cases hc:2*R.L<=n
  .rw[if_pos hc]at c a
   refine aK ?_ ?_<;>intro h
   .clear h
    refine aA ?_;exact⟨V,Y,b3,b1,X9,by rw[a,c];exact W,_,_,_,_,_,_,_,_,_,_,_,_,_,_,_,_,_,_,_,_,_,_,by rw[a,c];simp only[q1,ap₀,Int.natCast_one];rfl⟩
   .simp at h;omega
  .rw[if_neg hc]at c a
   refine aK ?_ ?_<;>intro h
   .simp at h;omega
   .clear h
    refine aA ?_;exact⟨V,Y,b3,b2,X9,by rw[a,c];exact X,_,_,_,_,_,_,_,_,_,_,_,_,_,_,_,_,_,_,_,_,_,_,by rw[a,c];simp only[ap₀,Int.natCast_one];rfl⟩
 .clear g0 g1 g2 T0
  rintro S H1 ⟨p,Y,b1,b2,W,X,z0,a0,b0,q,r,t,u,w,x,y,z,A,D,F,I,J,K,M,N,O,P,Q,rfl⟩;have U:=iy (co s) s.length;obtain⟨Y0,Z0,o0⟩:=oQ (co s) s.length;obtain⟨h1,j1,r0⟩:=qA (co s) s.length;have a1:=U.gen.one;have q0:xl s=trim (tab (bml (co s) s.length).1 (Reg.run (co s) s.length).C):=rfl;generalize (Reg.run (co s) s.length).C=C at *;generalize (bml (co s) s.length).1=l1 at *;have H0:=aJ l1 C;have o1:(tab l1 C).length<=l1/\l1<=(tab l1 C).length:=byO;clear U H0 X;(try simp only[aC]);refine aj (λm S H'=>H1=H'/\∃(e:Nat) (z0 z1 z2 z3 z4 z6 z8 z9 m1 a0 b0 q r t u w x y z A D F I J K M N O P Q:Value),1<=e/\e<=l1/\m=e/\(∀i,e<=i->co (tab l1 C) i=0)/\S=[z0,z1,z2,z3,z4,.slice (some ⟨b1,0,none⟩) e l1,z6,.int .i64 (Reg.run (co s) s.length).L,z8,z9,m1,a0,b0,q,r,t,u,w,x,y,z,A,D,F,I,J,K,M,N,O,P,Q]) l1 ?_ ?_
  .exact⟨rfl,l1,_,_,_,_,_,_,_,_,_,_,_,_,_,_,_,_,_,_,_,_,_,_,_,_,_,_,_,_,_,_,r0,Nat.le_refl _,rfl,λi hi=>by rw[dm,if_neg byO],rfl⟩
  rintro m S H' ⟨rfl,e,z0,z1,z2,z3,z4,z6,z8,z9,m1,a0,b0,q,r,t,u,w,x,y,z,A,D,F,I,J,K,M,N,O,P,Q,W1,u1,rfl,k1,rfl⟩;have w1:((m:Int)-1)=((m-1:Nat):Int):=byO;have l0:(tab l1 C).getD (m-1) 0=C (m-1):=fe byO;(try simp only[aC]);refine aK ?_ ?_<;>intro h
  .have hz:C (m-1)=0:=fR Ws
   clear h;have Y1:2<=m:=by
    apply Decidable.byContradiction;intro hc;rw[show m-1=0 by omega,a1]at hz;exact jq hz
   clear l0;refine aA ?_;simp only[bJ];refine⟨m-1,byO,We,m-1,_,_,_,_,_,_,_,_,_,_,_,_,_,_,_,_,_,_,_,_,_,_,_,_,_,_,_,_,_,_,byO,byO,rfl,λi hi=>?_,rfl⟩;by_cases e:i=m-1
   .rw[e,dm,if_pos byO,hz]
   .exact k1 i byO
  .have hz:C (m-1)≠0:=λe=>by rw[e,nK]at h;simp at h
   clear h w1 l0;have S0:xl s=(tab l1 C).take m:=by
    rw[q0,<-xC (n:=m) Xc k1];have:=xB (l:=tab l1 C) (n:=m-1) Xc (by rw[dm,if_pos byO];exact hz);rwa [show m-1+1=m by omega]at this
   clear q0;refine aA ?_;refine aL ?_;refine⟨p,_,rfl,?_⟩;rw[S0];have h0:((tab l1 C).take m).length=m:=by rw[List.length_take,aJ];omega
   refine .inr ⟨b1,0,none,l1,_,?_,W,?_,?_,.inl rfl,?_⟩
   .rw[h0]
   .rw[h0,List.drop_zero]
    simp[elL,List.map_take]
   .rw[h0,cX,aJ];omega
   .rw[h0];exact u1
end
section
variable {f:FD}[OkC f]
def LW(a b:Nat):aG (.minmax false) [.int .i64 (a:Int),.int .i64 (b:Int)] H=some (.int .i64 ((min a b:Nat):Int)):=by rw[I0];congr 2;split<;>omega
def LV(a b:Nat):aG (.minmax true) [.int .i64 0,.int .i64<|(a:Int)+(b:Int)-1] H=some (.int .i64 ((a+b-1:Nat):Int)):=by rw[BQ];congr 2;split<;>omega
open XHe
def pR{vp vq:Value}{p q:List<|El f}(j0:lo<=H.length)(Y:SlE H vp p)(Z:SlE H vq q)(l0:p.length<=100000000)(o0:q.length<=100000000)(n:Nat)(hn:n<=100000000) :
  Ev cp lo 128 [fvf f,vp,vq,.int .i64 n] H λv H'=>Ext H H'/\∃b,H.length<=b/\v=.slice (some ⟨b,0,none⟩) (min n<|p.length+q.length-1) (min n<|p.length+q.length-1)/\H'.get b=some (elL<|tab (min n<|p.length+q.length-1)<|cv (co p)<|co q):=by
 have J:=Y;have K:=Z;obtain⟨ap,r,rfl⟩:=Y.len;obtain⟨L,O,rfl⟩:=Z.len;have I:=λ(H:Heap)=>LV (H:=H) p.length q.length;have F:=λ(H:Heap)=>LW (H:=H) n<|p.length+q.length-1;have hN:min n (p.length+q.length-1)<=100000000:=byO;unfold fvf fv;apply stG rfl rfl;unfold Mh;simp only[kB,aC];refine aA ?_;generalize y:H++_=G at *;have P:G.get H.length=some (fvC f):=by rw[<-y];exact aI
 have Q:G.get (H.length+1)=some (elL<|tab (min n<|p.length+q.length-1) λ_=>(0:El f)):=by rw[<-y,bI,gH];rfl
 have w:Ext H G:=by rw[<-y];exact Ext.app _ _
 clear y I F;generalize min n (p.length+q.length-1)=N at *;apply aP (λi S H'=>Ext H H'/\H'.get H.length=some (fvC f)/\H'.get (H.length+1)=some (elL<|tab N<|rows (co p) (co q) i)/\∃(z:Nat->Value),S=[z 0,.slice ap p.length r,.slice L q.length O,z 3,.pointer<|some ⟨H.length,0,none⟩,.slice none 0 0,.slice (some ⟨H.length+1,0,none⟩) N N,.int .i64 i,z 8,z 9,z 10,z 11,z 12,z 13,z 14,z 15]) p.length
 .exact⟨w,P,Q,aH rfl⟩
 .rintro i S H' A ⟨hx,d,c,z,rfl⟩
  exact⟨_,aM,Wc⟩
 .clear P Q w
  rintro i S B A ⟨a,d,c,z,rfl⟩;obtain⟨b,o,sp,b0,xs,e,C,s,q0⟩:=eS J byO;cases e;have V:=s i A;have m:=Heap.get_lt c;have c0:=Heap.get_lt C;clear s;refine aA ?_;apply aP (λj S H'=>Ext H H'/\H'.get H.length=some (fvC f)/\H'.get (H.length+1)=some (elL<|tab N λk=>rows (co p) (co q) i k+(if i<=k/\k<i+j then co p i*co q (k-i) else 0))/\∃(z:Nat->Value),S=[z 0,.slice (some ⟨b,o,sp⟩) p.length r,.slice L q.length O,z 3,.pointer<|some ⟨H.length,0,none⟩,.slice none 0 0,.slice (some ⟨H.length+1,0,none⟩) N N,.int .i64 i,.int .i64 j,z 9,z 10,z 11,z 12,z 13,z 14,z 15]) (min q.length<|N-i)
  .refine⟨a,d,?_,aH rfl⟩
   rw[c];congr 2;refine ag λk _=>?_;rw[if_neg byO,add_zero]
  .rintro j S H' hj ⟨hx,d,c,z,rfl⟩
   exact⟨_,aM,Wr⟩
  .clear d c m a
   rintro j S B hj ⟨a,d,c,z,rfl⟩;obtain⟨b',o',s0,M,ys,e',R,t,r0⟩:=eS K byO;cases e';have R:=a.get R;have C:=a.get C;have W:=t j byO;have u:(tab N λk=>rows (co p) (co q) i k+(if i<=k/\k<i+j then co p i*co q (k-i) else 0)).getD (i+j) 0=rows (co p) (co q) i (i+j):=by
    rw[fe byO,if_neg byO,add_zero]
   have a0:(tab N λk=>rows (co p) (co q) i k+(if i<=k/\k<i+j then co p i*co q (k-i) else 0)).set (i+j) (rows (co p) (co q) i (i+j)+co p i*co q j)=tab N λk=>rows (co p) (co q) i k+(if i<=k/\k<i+(j+1) then co p i*co q (k-i) else 0):=by
    rw[lq];refine ag λk X=>?_;by_cases e:k=i+j
    .rw[if_pos e,if_pos byO,e,show i+j-i=j by omega]
    .rw[if_neg e]
     by_cases x:i<=k/\k<i+j
     .rw[if_pos x,if_pos byO]
     .rw[if_neg x,if_neg byO]
   have D:(tab N λk=>rows (co p) (co q) i k+(if i<=k/\k<i+j then co p i*co q (k-i) else 0)).length<=N/\N<=(tab N λk=>rows (co p) (co q) i k+(if i<=k/\k<i+j then co p i*co q (k-i) else 0)).length:=Xc
   generalize tab N (λk=>rows (co p) (co q) i k+(if i<=k/\k<i+j then co p i*co q (k-i) else 0))=T at *;have e0:((i:Int)+(j:Int))=((i+j:Nat):Int):=byO;have m:=Heap.get_lt c;clear t;refine aA ?_;refine ay ?_;refine aS (iC (co p i)<|co q j) ?_;rintro v H2 ⟨g,rfl⟩;have d:=g.get d;have c:=g.get c;have g:=a.trans g;refine bV ?_;refine aB (DZ (rows (co p) (co q) i<|i+j)<|co p i*co q j) ?_;rintro v H3 ⟨h,rfl⟩;have d:=h.get d;have c:=h.get c;have h:=g.trans h;have h0:=Heap.get_lt c;clear u;refine aA ?_;exact⟨h.set (by omega),Ww,by rw[aE (by omega)],aH ncM⟩
  .clear d c m a
   rintro S B ⟨a,d,c,z,rfl⟩;refine aA ?_;refine⟨a,d,?_,aH ncM⟩;rw[c];congr 2;refine ag λk X=>?_;rw[wc];congr 1;by_cases U:i<=k
   .rw[lA _ U]
    by_cases x:k<i+min q.length (N-i)
    .rw[if_pos ⟨U,x⟩]
    .rw[if_neg byO,mM (l:=q) byO,mul_zero]
   .rw[if_neg byO,nD _ byO,mul_zero]
 .rintro S B ⟨a,d,c,z,rfl⟩
  refine aA ?_;refine aL ?_;refine⟨a,H.length+1,byO,rfl,?_⟩;rw[c];congr 2;exact ag λk X=>DY (λi A=>mM A) k
theorem p6(x:El f):(0:El f)-x=-x:=zero_add _
end
namespace XPa
def xtr:=zzi @Int.cast_ofNat_Int<|zzi @fv.eq_1<|zzi @fvf.eq_1<|zzi @arC.eq_1<|zzi @lN<|zzi @cX<|zzi @gu<|zzi @jU<|zzi @ite_self.{1} (zzi @mf<|zzi @me @md)
end XPa
open XPa
def EG{ch sz po:Int}{l:XI}(t:SlI H v l)(y:l.length<=9223372036854775807):Ev cp lo 113 [fv ch sz po,v] H λv H'=>Ext H H'/\v=.bool (inF sz l):=by
 have m:=t;obtain⟨u,c,rfl⟩:=t.len;unfold fv;apply stG rfl rfl;unfold Mb;simp[kB,aC];refine aA ?_;generalize k:H++_=G at *;have B:G.get H.length=some [.int .i64 ch,.int .i64 sz,.int .i64 po]:=by rw[<-k];exact aI
 have f:Ext H G:=by rw[<-k];exact Ext.app _ _
 apply aP (λi S H'=>G=H'/\inF sz (l.take i)=true/\∃(z:Nat->Value),S=[z 0,z 1,.pointer<|some ⟨H.length,0,none⟩,.bool false,z 4,.slice u l.length c,.int .i64 l.length,.int .i64 i]) l.length
 .exact⟨rfl,rfl,aH rfl⟩
 .rintro i S H' j ⟨rfl,-,z,rfl⟩
  exact⟨_,aM,Wc⟩
 .rintro i S H' j ⟨rfl,a,z,rfl⟩
  have⟨b,o,sp,w,xs,e,r,g,A⟩:=m.els 0 byO;cases e;have r:=f.get r;have s:=g i j;have q:=kN (p:=λx=>!(decide (x<0) || decide (sz<=x))) j;refine aA ?_;refine aK ?_ ?_<;>intro h
  .have n:inF sz l=false:=by
    rw[Bool.eq_false_iff];intro d;have:=lU.1 d (l.getD i 0) (by rw[au₀,bc₀ j];exact List.getElem_mem j);simp at h;simp at this;omega
   refine aA ?_;refine aL ?_;exact⟨f,by rw[n];rfl⟩
  .have d:inF sz (l.take<|i+1)=true:=by
    unfold inF at a ⊢;rw[q,a,h];rfl
   refine aA ?_;exact⟨We,d,aH ncM⟩
 .rintro S H' ⟨rfl,a,z,rfl⟩
  rw[List.take_of_length_le<|Nat.le_refl _]at a;refine aA ?_;refine aL ?_;exact⟨f,by rw[a];rfl⟩
section
variable {f:FD}[OkC f]
def lz(l:List<|El f):XI:=l.map λx=>(x.val:Int)
def sO{l:List<|El f}(h:SlE H v l):SlI H v<|lz l:=by
 rcases h with ⟨rfl,rfl⟩|⟨b,o,sp,a,xs,e,c,d,g,i⟩
 .exact .inl ⟨rfl,rfl⟩
 .refine .inr ⟨b,o,sp,a,xs,by grind[lz],c,?_,by grind[lz],by grind[lz]⟩
  simp[lz,ay₀,List.map_map];exact d
def zX(l:List<|El f):inF (f.q:Int) (lz l)=true:=by
 rw[lU];intro x a;obtain⟨y,_,rfl⟩:=List.mem_map.1 a
 simp_all[El.lt]
theorem pg(l:List<|El f):(lz l).length=l.length:=by simp[lz]
end
end Go.Proofs.YtgiojnobcjnibaaGreatDoor
