/- Lemmas. -/
import Derived.Test.YtmnlgdpdgjbfgaaGreatF1
import Derived.KernelRfl
set_option linter.all false
namespace Go.RS
class Fd (K:Type) where
 add:K->K->K
 mul:K->K->K
 neg:K->K
 zero:K
 one:K
 inv:K->K
 add_assoc':∀a b c,add (add a b) c=add a (add b c)
 add_comm':∀a b,add a b=add b a
 add_zero':∀a,add a zero=a
 add_neg':∀a,add a (neg a)=zero
 mul_assoc':∀a b c,mul (mul a b) c=mul a (mul b c)
 mul_comm':∀a b,mul a b=mul b a
 mul_one':∀a,mul a one=a
 mul_add':∀a b c,mul a (add b c)=add (mul a b) (mul a c)
 mul_inv':∀a,a≠zero->mul a (inv a)=one
 one_ne':one≠zero
 dec:DecidableEq K
section
variable {K:Type}[Fd K]
instance (priority:=50):Add K:=⟨Fd.add⟩
instance (priority:=50):Mul K:=⟨Fd.mul⟩
instance (priority:=50):Neg K:=⟨Fd.neg⟩
instance (priority:=50):Sub K:=⟨λa b=>Fd.add a<|Fd.neg b⟩
instance (priority:=50):OfNat K 0:=⟨Fd.zero⟩
instance (priority:=50):OfNat K 1:=⟨Fd.one⟩
instance (priority:=50):DecidableEq K:=Fd.dec
def inv(a:K):K:=Fd.inv a
theorem add_assoc(a b c:K):a+b+c=a+(b+c):=Fd.add_assoc' a b c
theorem add_comm(a b:K):a+b=b+a:=Fd.add_comm' a b
theorem add_zero(a:K):a+0=a:=Fd.add_zero' a
theorem zero_add(a:K):0+a=a:=by rw[add_comm,add_zero]
theorem add_neg(a:K):a+-a=0:=Fd.add_neg' a
theorem oV(a:K):-a+a=0:=by rw[add_comm,add_neg]
theorem sub_def(a b:K):a-b=a+-b:=rfl
theorem mul_assoc(a b c:K):a*b*c=a*(b*c):=Fd.mul_assoc' a b c
theorem mul_comm(a b:K):a*b=b*a:=Fd.mul_comm' a b
theorem mul_one(a:K):a*1=a:=Fd.mul_one' a
theorem one_mul(a:K):1*a=a:=by rw[mul_comm,mul_one]
theorem mul_add(a b c:K):a*(b+c)=a*b+a*c:=Fd.mul_add' a b c
theorem add_mul(a b c:K):(a+b)*c=a*c+b*c:=by grind[mul_comm,mul_add]
theorem Bi{a:K}(h:a≠0):a*inv a=1:=Fd.mul_inv' a h
theorem inv_mul{a:K}(h:a≠0):inv a*a=1:=by rw[mul_comm,Bi h]
theorem sO:(1:K)≠0:=Fd.one_ne'
theorem add_left_cancel{a b c:K}(h:a+b=a+c):b=c:=by
 have:-a+(a+b)=-a+(a+c):=by rw[h]
 rwa [<-add_assoc,<-add_assoc,oV,zero_add,zero_add]at this
theorem mul_zero(a:K):a*0=0:=by
 have:a*0+a*0=a*0+0:=by rw[<-mul_add,add_zero,add_zero]
 grind[add_left_cancel]
theorem zero_mul(a:K):0*a=0:=by rw[mul_comm,mul_zero]
theorem iv{a b:K}(h:a+b=0):-a=b:=by grind[add_left_cancel,add_neg]
theorem neg_mul(a b:K):-a*b=-(a*b):=by symm;apply iv;rw[<-add_mul,add_neg,zero_mul]
theorem mul_neg(a b:K):a*-b=-(a*b):=by grind[mul_comm,neg_mul]
theorem neg_zero:-(0:K)=0:=iv<|add_zero 0
theorem neg_add(a b:K):-(a+b)=-a+-b:=by grind[iv,add_assoc,add_comm,add_neg,add_zero]
theorem sub_self(a:K):a-a=0:=add_neg a
theorem sub_eq_zero{a b:K}(h:a-b=0):a=b:=by
 have:a-b+b=0+b:=by rw[h]
 grind[sub_def,add_assoc,oV,add_zero,zero_add]
theorem mul_eq_zero{a b:K}(h:a*b=0):a=0\/b=0:=by
 by_cases c:a=0
 .exact .inl c
 .right
  have:inv a*(a*b)=inv a*0:=by rw[h]
  rwa [<-mul_assoc,inv_mul c,one_mul,mul_zero]at this
theorem mul_ne_zero{a b:K}(c:a≠0)(d:b≠0):a*b≠0:=λh=>(mul_eq_zero h).elim c d
theorem mul_left_cancel{a b c:K}(d:a≠0)(h:a*b=a*c):b=c:=by
 have:inv a*(a*b)=inv a*(a*c):=by rw[h]
 rwa [<-mul_assoc,<-mul_assoc,inv_mul d,one_mul,one_mul]at this
theorem uR{a b:K}(h:a*b=1):inv a=b:=by
 have c:a≠0:=by grind[zero_mul,sO]
 grind[mul_left_cancel,Bi]
theorem inv_inv{a:K}(b:a≠0):inv (inv a)=a:=uR<|inv_mul b
def pw(a:K):Nat->K
 | 0=>1
 | n+1=>pw a n*a
theorem iZ(a:K):pw a 0=1:=rfl
theorem eC(a:K)(n:Nat):pw a (n+1)=pw a n*a:=rfl
theorem p9(a:K):pw a 1=a:=by rw[eC,iZ,one_mul]
theorem iJ(a:K)(m:Nat):∀n,pw a (m+n)=pw a m*pw a n
 | 0=>by grind[iZ,mul_one]
 | n+1=>by rw[<-Nat.add_assoc,eC,iJ a m n,eC,mul_assoc]
theorem A3(a:K)(m:Nat):∀n,pw a (m*n)=pw (pw a m) n
 | 0=>rfl
 | n+1=>by rw[Nat.mul_succ,iJ,A3 a m n,eC]
theorem AR:∀n,pw (1:K) n=1
 | 0=>rfl
 | n+1=>by rw[eC,AR n,mul_one]
theorem GJ(a b:K):∀n,pw (a*b) n=pw a n*pw b n
 | 0=>by grind[iZ,mul_one]
 | n+1=>by rw[eC,eC,eC,GJ a b n,mul_assoc,mul_assoc,<-mul_assoc (pw b n) a b,mul_comm (pw b n) a,mul_assoc a]
theorem dZ{a:K}(h:a≠0):∀n,pw a n≠0
 | 0=>sO
 | n+1=>mul_ne_zero (dZ h n) h
end
inductive RE where
 | v (n:Nat)
 | zero
 | one
 | add (a b:RE)
 | mul (a b:RE)
 | neg (a:RE)
abbrev mb:=List Nat
abbrev Pol:=List<|Int×mb
def DM:mb->mb->Ordering
 | [],[]=>.eq
 | [],_=>.lt
 | _,[]=>.gt
 | a::x,b::y=>if a<b then .lt else if b<a then .gt else DM x y
def DO(a:Nat):mb->mb
 | []=>[a]
 | b::y=>if a<=b then a::b::y else b::DO a y
def GG:mb->mb->mb
 | [],y=>y
 | a::x,y=>DO a<|GG x y
def qN(c:Int)(m:mb):Pol->Pol
 | []=>if c=0 then[] else[(c,m)]
 | (d,n)::r=>match DM m n with
  | .lt=>if c=0 then(d,n)::r else(c,m)::(d,n)::r
  | .eq=>if c+d=0 then r else(c+d,n)::r
  | .gt=>(d,n)::qN c m r
def DU:Pol->Pol->Pol
 | [],q=>q
 | (c,m)::p,q=>qN c m<|DU p q
def ud(c:Int)(m:mb):Pol->Pol
 | []=>[]
 | (d,n)::r=>qN (c*d) (GG m n)<|ud c m r
def Gd:Pol->Pol->Pol
 | [],_=>[]
 | (c,m)::p,q=>DU (ud c m q)<|Gd p q
def RE.norm:RE->Pol
 | .v n=>[(1,[n])]
 | .zero=>[]
 | .one=>[(1,[])]
 | .add a b=>DU a.norm b.norm
 | .mul a b=>Gd a.norm b.norm
 | .neg a=>ud (-1) [] a.norm
section
variable {K:Type}[Fd K]
def RE.den(env:List K):RE->K
 | .v n=>env.getD n 0
 | .zero=>0
 | .one=>1
 | .add a b=>a.den env+b.den env
 | .mul a b=>a.den env*b.den env
 | .neg a=>- a.den env
def nsm(a:K):Nat->K
 | 0=>0
 | n+1=>nsm a n+a
def ism(a:K):Int->K
 | .ofNat n=>nsm a n
 | .negSucc n=>- nsm a (n+1)
theorem oW(a:K)(m:Nat):∀n,nsm a (m+n)=nsm a m+nsm a n
 | 0=>by grind[nsm,add_zero]
 | n+1=>by rw[<-Nat.add_assoc,show nsm a (m+n+1)=nsm a (m+n)+a from rfl,oW a m n,add_assoc];rfl
theorem B5(a:K)(m n:Nat):ism a (Int.subNatNat m n)=nsm a m+- nsm a n:=by
 rcases Nat.lt_or_ge m n with h|h
 .obtain⟨k,rfl⟩:∃k,n=m+k+1:=⟨n-m-1,byO⟩
  rw[Int.subNatNat_of_lt byO,show m+k+1-m=k+1 by omega];show-nsm a (k+1)=_;rw[Nat.add_assoc,oW a m<|k+1,neg_add,<-add_assoc,add_neg,zero_add]
 .obtain⟨k,rfl⟩:∃k,m=n+k:=⟨m-n,byO⟩
  rw[Int.subNatNat_of_le byO,show n+k-n=k by omega];show nsm a k=_;rw[oW,add_comm<|nsm a n,add_assoc,add_neg,add_zero]
theorem v3(a:K)(m n:Int):ism a (m+n)=ism a m+ism a n:=by
 cases m with
 | ofNat m=>
  cases n with
  | ofNat n=>exact oW a m n
  | negSucc n=>exact B5 a m<|n+1
 | negSucc m=>
  cases n with
  | ofNat n=>rw[add_comm];exact B5 a n<|m+1
  | negSucc n=>
   show-nsm a (m+n+1+1)=- nsm a (m+1)+- nsm a (n+1);rw[<-neg_add,<-oW,show m+n+1+1=m+1+(n+1) by omega]
theorem lS(a:K):ism a 0=0:=rfl
theorem v8(a:K):ism a 1=a:=zero_add a
theorem B3(a:K)(n:Int):ism a (-n)=- ism a n:=by
 symm;apply iv
 rw[<-v3,show n+-n=0 by omega,lS]
theorem wA(a b:K):∀n,nsm (a*b) n=nsm a n*b
 | 0=>by grind[nsm,zero_mul]
 | n+1=>by rw[show nsm (a*b) (n+1)=nsm (a*b) n+a*b from rfl,wA a b n,<-add_mul];rfl
theorem Iw(a b:K)(n:Int):ism (a*b) n=ism a n*b:=by
 cases n with
 | ofNat n=>exact wA a b n
 | negSucc n=>show-nsm (a*b) (n+1)=- nsm a (n+1)*b;rw[wA,neg_mul]
theorem lR(a:K)(m:Int):∀n:Nat,ism a (m*n)=nsm (ism a m) n
 | 0=>by rw[show m*((0:Nat):Int)=0 by simp,lS];rfl
 | n+1=>by rw[show m*((n+1:Nat):Int)=m*n+m by grind,v3,lR a m n];rfl
theorem Iv(a:K)(m n:Int):ism a (m*n)=ism (ism a m) n:=by
 cases n with
 | ofNat n=>exact lR a m n
 | negSucc n=>
  rw[show m*Int.negSucc n=-(m*((n+1:Nat):Int)) by grind,B3,lR];rfl
theorem v7(a b:K)(m n:Int):ism (a*b) (m*n)=ism a m*ism b n:=by grind[Iv,Iw,mul_comm]
def nR(env:List K):mb->K
 | []=>1
 | a::x=>env.getD a 0*nR env x
def kl(env:List K):Pol->K
 | []=>0
 | (c,m)::r=>ism (nR env m) c+kl env r
theorem Bh:∀(x y:mb),DM x y=.eq->x=y
 | [],[],_=>rfl
 | [],_::_,h=>by grind[DM]
 | _::_,[],h=>by grind[DM]
 | a::x,b::y,h=>by
  simp[DM]at h;split at h
  .cases h
  .split at h
   .cases h
   .rw[Bh x y h,show a=b by omega]
theorem yK(c:List K)(a:Nat):∀(y:mb),nR c (DO a y)=c.getD a 0*nR c y
 | []=>rfl
 | b::y=>by
  rw[DO];split
  .rfl
  .rw[show nR c (b::DO a y)=c.getD b 0*nR c (DO a y) from rfl,yK c a y,<-mul_assoc,mul_comm<|c.getD b 0,mul_assoc];rfl
theorem yL(b:List K):∀(x y:mb),nR b (GG x y)=nR b x*nR b y
 | [],y=>by grind[GG,nR,one_mul]
 | a::x,y=>by rw[GG,yK,yL b x y,<-mul_assoc];rfl
theorem pZ(a:List K)(c:Int)(m:mb):∀p,kl a (qN c m p)=ism (nR a m) c+kl a p
 | []=>by
  rw[qN];split
  .grind[lS,zero_add]
  .rfl
 | (d,n)::r=>by
  rw[qN];split
  .split
   .grind[lS,zero_add]
   .rfl
  next h=>
   have:=Bh _ _ h;subst this;rw[show kl a ((d,m)::r)=ism (nR a m) d+kl a r from rfl,<-add_assoc,<-v3];split
   .grind[lS,zero_add]
   .rfl
  .rw[show kl a ((d,n)::qN c m r)=ism (nR a n) d+kl a (qN c m r) from rfl,pZ a c m r,<-add_assoc,add_comm<|ism (nR a n) d,add_assoc];rfl
theorem sS(a:List K):∀p q,kl a (DU p q)=kl a p+kl a q
 | [],q=>by grind[DU,kl,zero_add]
 | (c,m)::p,q=>by rw[DU,pZ,sS a p q,<-add_assoc];rfl
theorem p7(a:List K)(c:Int)(m:mb):∀p,kl a (ud c m p)=ism (nR a m) c*kl a p
 | []=>by grind[ud,kl,mul_zero]
 | (d,n)::r=>by rw[ud,pZ,p7 a c m r,yL,v7,<-mul_add];rfl
theorem yh(a:List K):∀p q,kl a (Gd p q)=kl a p*kl a q
 | [],q=>by grind[Gd,kl,zero_mul]
 | (c,m)::p,q=>by rw[Gd,sS,p7,yh a p q,<-add_mul];rfl
theorem RE.norm_den(c:List K):∀e:RE,kl c e.norm=e.den c
 | .v n=>by
  show ism (c.getD n 0*1) 1+0=c.getD n 0;rw[add_zero,v8,mul_one]
 | .zero=>rfl
 | .one=>by
  show ism (1:K) 1+0=1;rw[add_zero,v8]
 | .add a b=>by rw[RE.norm,sS,RE.norm_den c a,RE.norm_den c b];rfl
 | .mul a b=>by rw[RE.norm,yh,RE.norm_den c a,RE.norm_den c b];rfl
 | .neg a=>by
  rw[RE.norm,p7,RE.norm_den c a];show ism (1:K) (-1)*_=- _;rw[B3,v8,neg_mul,one_mul]
def ue:Pol->Pol->Bool
 | [],[]=>true
 | (c,m)::p,(d,n)::q=>c==d&&m==n&&ue p q
 | _,_=>false
theorem yi:∀p q,ue p q=true->p=q
 | [],[],_=>rfl
 | [],_::_,h=>by grind[ue]
 | _::_,[],h=>by grind[ue]
 | (c,m)::p,(d,n)::q,h=>by
  simp[ue,ac₀,beq_iff_eq]at h;rw[h.1.1,h.1.2,yi p q h.2]
theorem cY(c:List K)(a b:RE)(h:ue a.norm b.norm=true):a.den c=b.den c:=by rw[<-RE.norm_den,<-RE.norm_den,yi _ _ h]
end
end Go.RS
namespace Go.RS
section
variable {K:Type}[Fd K]
def sm:Nat->(Nat->K)->K
 | 0,_=>0
 | n+1,f=>sm n f+f n
theorem bm(n:Nat)(f:Nat->K):sm (n+1) f=sm n f+f n:=rfl
theorem VG(f:Nat->K):sm 0 f=0:=rfl
theorem Ad(f:Nat->K):sm 1 f=f 0:=zero_add _
theorem bW{f g:Nat->K}:∀{n:Nat},(∀i,i<n->f i=g i)->sm n f=sm n g
 | 0,_=>rfl
 | n+1,h=>by rw[bm,bm,bW λi a=>h i byO,h n byO]
theorem ek{f:Nat->K}:∀{n:Nat},(∀i,i<n->f i=0)->sm n f=0
 | 0,_=>rfl
 | n+1,h=>by rw[bm,ek λi a=>h i byO,h n byO,add_zero]
theorem pj(f g:Nat->K):∀n,sm n (λi=>f i+g i)=sm n f+sm n g
 | 0=>(add_zero 0).symm
 | n+1=>by
  rw[bm,bm,bm,pj f g n];exact(show(((sm n f)+(sm n g))+((f n)+(g n)))=(((sm n f)+(f n))+((sm n g)+(g n))) from cY [(sm n f),(sm n g),(f n),(g n)] (.add (.add (.v 0)<|.v 1)<|.add (.v 2)<|.v 3) (.add (.add (.v 0)<|.v 2)<|.add (.v 1)<|.v 3) rfl)
theorem l9(a:K)(f:Nat->K):∀n,a*sm n f=sm n λi=>a*f i
 | 0=>mul_zero a
 | n+1=>by rw[bm,bm,mul_add,l9 a f n]
theorem lh(a:K)(f:Nat->K)(n:Nat):sm n f*a=sm n λi=>f i*a:=by grind[mul_comm,l9]
theorem we(f:Nat->K):∀n,-sm n f=sm n λi=>- f i
 | 0=>neg_zero
 | n+1=>by rw[bm,bm,neg_add,we f n]
theorem hO(f:Nat->K):∀n,sm (n+1) f=f 0+sm n λi=>f<|i+1
 | 0=>by grind[bm,VG,zero_add,add_zero]
 | n+1=>by rw[bm,hO f n,bm,add_assoc]
theorem sy(f:Nat->K):∀n,sm n f=sm n λi=>f<|n-1-i
 | 0=>rfl
 | n+1=>by
  rw[hO λi=>f<|n+1-1-i,bm,sy f n,add_comm]
  grind
theorem tA(f:Nat->K)(m:Nat):∀n,sm (m+n) f=sm m f+sm n λi=>f<|m+i
 | 0=>(add_zero _).symm
 | n+1=>by rw[<-Nat.add_assoc,bm,tA f m n,bm,add_assoc]
theorem pq{f:Nat->K}{k:Nat}:∀{n:Nat},k<n->(∀i,i<n->i≠k->f i=0)->sm n f=f k
 | 0,h,_=>by omega
 | n+1,h,a=>by
  rw[bm];by_cases e:k=n
  .subst e
   rw[ek λi b=>a i byO byO,zero_add]
  .rw[pq byO λi b=>a i byO,a n byO λh=>e h.symm,add_zero]
theorem l7{f:Nat->K}{m n:Nat}(h:m<=n)(a:∀i,m<=i->i<n->f i=0):sm n f=sm m f:=by obtain⟨k,rfl⟩:∃k,n=m+k:=⟨n-m,byO⟩;rw[tA,ek (n:=k) λi b=>a _ byO byO,add_zero]
theorem Ae(f:Nat->Nat->K):∀n,sm (n+1) (λk=>sm (k+1) λi=>f i<|k-i)=sm (n+1) λi=>sm (n-i+1) λj=>f i j
 | 0=>rfl
 | n+1=>by
  rw[bm,Ae f n,bm (n+1) λi=>sm (n+1-i+1) λj=>f i j,Nat.sub_self,Ad];have e:sm (n+1) (λi=>sm (n+1-i+1) λj=>f i j)=sm (n+1) (λi=>sm (n-i+1) λj=>f i j)+sm (n+1) λi=>f i<|n+1-i:=by
   rw[<-pj];refine bW λi a=>?_;rw[show n+1-i+1=(n-i+1)+1 by omega,bm,show n-i+1=n+1-i by omega]
  rw[e,bm (n+1) λi=>f i<|n+1-i,Nat.sub_self,add_assoc]
abbrev Ser(K:Type):=Nat->K
def cv(p q:Ser K):Ser K:=λn=>sm (n+1) λi=>p i*q (n-i)
theorem qe(p q:Ser K):cv p q=cv q p:=by
 funext n;unfold cv;rw[sy]
 grind[bW,mul_comm]
theorem xV(p q r:Ser K):cv (cv p q) r=cv p (cv q r):=by
 funext n;unfold cv;have h:=Ae (λi j=>p i*q j*r (n-i-j)) n;have a:sm (n+1) (λk=>sm (k+1) (λi=>p i*q (k-i))*r (n-k))=sm (n+1) λk=>sm (k+1) λi=>p i*q (k-i)*r (n-i-(k-i)):=by
  refine bW λk d=>?_;rw[lh];refine bW λi b=>?_;rw[show n-i-(k-i)=n-k by omega]
 rw[a,h];refine bW λi b=>?_;rw[l9];refine bW λj c=>?_;rw[mul_assoc]
theorem Et(p q r:Ser K)(n:Nat):cv (λi=>p i+q i) r n=cv p r n+cv q r n:=by simp_all[cv,pj,add_mul]
theorem Eu(p q r:Ser K)(n:Nat):cv r (λi=>p i+q i) n=cv r p n+cv r q n:=by simp_all[cv,pj,mul_add]
theorem Cl(a:K)(p q:Ser K)(n:Nat):cv (λi=>a*p i) q n=a*cv p q n:=by unfold cv;rw[l9];exact bW λi _=>mul_assoc _ _ _
theorem BJ(p q:Ser K):cv p q 0=p 0*q 0:=Ad _
def sh(m:Nat)(p:Ser K):Ser K:=λn=>if m<=n then p (n-m) else 0
theorem sw{m n:Nat}(p:Ser K)(h:n<m):sh m p n=0:=by unfold sh;rw[if_neg byO]
theorem oy{m n:Nat}(p:Ser K)(h:m<=n):sh m p n=p (n-m):=by grind[sh]
theorem Lp(m:Nat)(p q:Ser K):cv (sh m p) q=sh m (cv p q):=by
 funext n;by_cases h:m<=n
 .rw[oy _ h]
  unfold cv;obtain⟨k,rfl⟩:∃k,n=m+k:=⟨n-m,byO⟩;rw[show m+k+1=m+(k+1) by omega,tA,ek (n:=m) λi a=>by rw[sw _ a,zero_mul],zero_add,show m+k-m=k by omega];refine bW λi a=>?_;rw[oy _ byO,show m+i-m=i by omega,show m+k-(m+i)=k-i by omega]
 .rw[sw _ byO]
  exact ek λi a=>by rw[sw _ byO,zero_mul]
def s1:Ser K:=λn=>if n=0 then 1 else 0
theorem rO(p:Ser K):cv s1 p=p:=by funext n;unfold cv;rw[pq (k:=0) byO λi _ h=>by unfold s1;rw[if_neg h,zero_mul]];unfold s1;rw[if_pos rfl,one_mul,Nat.sub_zero]
def dg(p:Ser K)(d:Nat):Prop:=∀i,d<i->p i=0
theorem xY{p q:Ser K}{a b:Nat}(c:dg p a)(d:dg q b):dg (cv p q)<|a+b:=by
 intro n f;refine ek λi e=>?_;by_cases h:a<i
 .rw[c i h,zero_mul]
 .rw[d (n-i) byO,mul_zero]
def pv(p:Ser K)(d:Nat)(x:K):K:=sm (d+1) λi=>p i*pw x i
theorem yk{p q:Ser K}{a b:Nat}(g:dg p a)(h:dg q b)(x:K):pv (cv p q) (a+b) x=pv p a x*pv q b x:=by
 unfold pv cv;have c:sm (a+b+1) (λn=>sm (n+1) (λi=>p i*q (n-i))*pw x n)=sm (a+b+1) λn=>sm (n+1) λi=>p i*pw x i*(q (n-i)*pw x (n-i)):=by
  refine bW λn l=>?_;rw[lh];refine bW λi f=>?_;obtain⟨k,rfl⟩:∃k,n=i+k:=⟨n-i,byO⟩;rw[show i+k-i=k by omega,iJ];exact(show(((p i)*(q k))*((pw x i)*(pw x k)))=(((p i)*(pw x i))*((q k)*(pw x k))) from cY [(p i),(q k),(pw x i),(pw x k)] (.mul (.mul (.v 0)<|.v 1)<|.mul (.v 2)<|.v 3) (.mul (.mul (.v 0)<|.v 2)<|.mul (.v 1)<|.v 3) rfl)
 rw[c,Ae λi j=>p i*pw x i*(q j*pw x j),lh,l7 (m:=a+1) byO (λi d e=>by
  refine ek λj _=>?_;rw[g i byO,zero_mul,zero_mul])]
 refine bW λi f=>?_;rw[l9,l7 (m:=b+1) byO λj d e=>by rw[h j byO,zero_mul,mul_zero]]
def lin(X:K):Ser K:=λn=>if n=0 then 1 else if n=1 then-X else 0
theorem zh(X:K):dg (lin X) 1:=by intro i a;unfold lin;rw[if_neg byO,if_neg byO]
theorem Gg(X x:K):pv (lin X) 1 x=1-X*x:=by unfold pv lin;rw[bm,Ad,if_pos rfl,if_neg byO,if_pos rfl,iZ,p9,mul_one,neg_mul];rfl
theorem NZ(X:K)(p:Ser K)(n:Nat):cv (lin X) p (n+1)=p (n+1)-X*p n:=by unfold cv;rw[hO,hO,ek (n:=n) λi _=>by unfold lin;rw[if_neg byO,if_neg byO,zero_mul]];unfold lin;rw[if_pos rfl,if_neg byO,if_pos rfl,one_mul,add_zero,neg_mul];rfl
theorem IN(X:K)(p:Ser K):cv (lin X) p 0=p 0:=by grind[BJ,lin,one_mul]
def dl(X:K)(p:Ser K):Ser K:=λn=>sm (n+1) λi=>p i*pw X (n-i)
theorem IV(X:K)(p:Ser K):dl X p 0=p 0:=by unfold dl;rw[Ad,iZ,mul_one]
theorem IU(X:K)(p:Ser K)(n:Nat):dl X p (n+1)=X*dl X p n+p (n+1):=by unfold dl;rw[bm,Nat.sub_self,iZ,mul_one,l9];congr 1;refine bW λi a=>?_;rw[show n+1-i=(n-i)+1 by omega,eC];exact(show((p i)*((pw X<|n-i)*X))=(X*((p i)*(pw X<|n-i))) from cY [(p i),(pw X<|n-i),X] (.mul (.v 0)<|.mul (.v 1)<|.v 2) (.mul (.v 2)<|.mul (.v 0)<|.v 1) rfl)
theorem RF(X:K)(p:Ser K):cv (lin X) (dl X p)=p:=by
 funext n;cases n with
 | zero=>rw[IN,IV]
 | succ n=>rw[NZ,IU];exact(show(((X*dl X p n)+(p<|n+1))-(X*dl X p n))=(p<|n+1) from cY [(X*dl X p n),(p<|n+1)] (.add (.add (.v 0)<|.v 1)<|.neg<|.v 0) (.v 1) rfl)
theorem tU{x X:K}(h:X*x=1)(n:Nat):pw X n*pw x n=1:=by rw[<-GJ,h,AR]
theorem RK{X x:K}(h:X*x=1){p:Ser K}{d:Nat}(c:dg p<|d+1)(f:pv p (d+1) x=0):dg (dl X p) d:=by
 have a:∀n,d+1<=n->dl X p n=pw X n*pv p (d+1) x:=by
  intro n l;unfold dl pv;rw[l7 (m:=d+1+1) byO λi g j=>by rw[c i byO,zero_mul],l9];refine bW λi b=>?_;obtain⟨k,rfl⟩:∃k,n=k+i:=⟨n-i,byO⟩;rw[show k+i-i=k by omega,iJ];have:=tU h i;have e:=(show(((pw X k)*(pw X i))*((p i)*(pw x i)))=(((p i)*(pw X k))*((pw X i)*(pw x i))) from cY [(pw X k),(pw X i),(p i),(pw x i)] (.mul (.mul (.v 0)<|.v 1)<|.mul (.v 2)<|.v 3) (.mul (.mul (.v 2)<|.v 0)<|.mul (.v 1)<|.v 3) rfl);rw[e,this,mul_one]
 intro i b;rw[a i byO,f,mul_zero]
def vc:List K->Ser K
 | []=>s1
 | X::l=>cv (lin X)<|vc l
theorem Lq:dg (s1:Ser K) 0:=by intro i a;unfold s1;rw[if_neg byO]
theorem vP:∀l:List K,dg (vc l) l.length
 | []=>Lq
 | X::l=>by
  have:=xY (zh X)<|vP l;rw[show 1+l.length=(X::l).length by simp;omega]at this;exact this
theorem Sf(x:K):pv s1 0 x=1:=by unfold pv;rw[Ad,iZ,mul_one];rfl
theorem wP(X:K)(l:List K)(x:K):pv (vc (X::l)) (l.length+1) x=(1-X*x)*pv (vc l) l.length x:=by have:=yk (zh X) (vP l) x;rw[Gg,show 1+l.length=l.length+1 by omega]at this;exact this
theorem sP{X Y x:K}(e:X*x=1)(h:X≠Y):1-Y*x≠0:=by grind[mul_zero,sO,mul_left_cancel,mul_comm,sub_eq_zero]
theorem sY:∀{l:List K} {X x:K},X ∉ l->X*x=1->pv (vc l) l.length x≠0
 | [],_,x,_,_=>by rw[vc,an₀,Sf];exact sO
 | Y::l,X,x,h,e=>by
  rw[ak₀,wP];refine mul_ne_zero (sP e λa=>h (by rw[a];simp))<|sY (λb=>h (by simp[b])) e
theorem uo:∀(l:List K) (xs:List K) (p:Ser K) (d:Nat),l.length=xs.length->l.Nodup->(∀i (h:i<l.length) (s:i<xs.length),l[i]*xs[i]=1)->dg p (l.length+d)->(∀x ∈ xs,pv p (l.length+d) x=0)->∃q,dg q d/\p=cv (vc l) q
 | [],xs,p,d,_,_,_,g,_=>⟨p,by simpa using g,by rw[vc,rO]⟩
 | X::l,[],p,d,m,_,_,_,_=>by simp at m
 | X::l,x::xs,p,d,m,v,r,g,o=>by
  have e:X*x=1:=r 0 (by simp) (by simp);have a:l.length=xs.length:=by simpa using m
  have B:(X::l).length+d=(l.length+d)+1:=by simp;omega
  rw[B]at g o;have t:=RK e g<|o x (by simp);have u:p=cv (lin X) (dl X p):=(RF X p).symm;have b:X ∉ l:=(List.nodup_cons.1 v).1;have⟨q,D,n⟩:=uo l xs (dl X p) d a (List.nodup_cons.1 v).2 (λi h s=>r (i+1) (by simpa using h) (by simpa using s)) t (by
   intro y z;have c:=o y (by simp[z]);rw[u]at c;have w:=yk (zh X) t y;rw[show 1+(l.length+d)=l.length+d+1 by omega,c,Gg]at w;obtain⟨i,C,rfl⟩:=List.getElem_of_mem z;have k:i<l.length:=byO;have f:=r (i+1) (by simpa using k) (by simpa using C);simp[List.getElem_cons_succ]at f;rcases mul_eq_zero w.symm with j|j
   .exact absurd j<|sP f λA=>b (by rw[<-A];exact List.getElem_mem _)
   .exact j)
  exact⟨q,D,by rw[vc,xV,<-n,<-u]⟩
end
end Go.RS
namespace Go.RS
section
variable {K:Type}[Fd K]
def geo(X:K):Ser K:=λn=>pw X n
def gs:List (K×K)->Ser K
 | []=>λ_=>0
 | (y,X)::l=>λn=>y*geo X n+gs l n
def xs:List (K×K)->List K:=List.map Prod.snd
theorem BI(p:Ser K):cv p (λ_=>0)=λ_=>0:=by funext n;exact ek λi _=>mul_zero _
end
end Go.RS
namespace Go.RS
theorem mN:∀(q:Nat) (l:List Nat),l.Nodup->(∀x ∈ l,x<q)->l.length<=q
 | 0,l,_,h=>by
  cases l with
  | nil=>simp
  | cons a l=>exact absurd (h a (by simp)) byO
 | q+1,l,d,h=>by
  by_cases c:q ∈ l
  .have i:=List.length_erase_of_mem c
   have j:=mN q (l.erase q) (d.erase q) (λx b=>by
    have f:=h x<|List.mem_of_mem_erase b;have g:x≠q:=(d.mem_erase_iff.1 b).1;omega)
   have f:=List.length_pos_of_mem c;omega
  .have:=mN q l d (λx b=>by
    have f:=h x b;have g:x≠q:=λe=>c<|e▸b;omega)
   omega
theorem iH{a:Type}{f:Nat->a}{n:Nat}(h:∀i j,i<n->j<n->f i=f j->i=j):((List.range n).map f).Nodup:=by grind[List.Pairwise.imp_of_mem,List.nodup_range]
theorem qR{q:Nat}{f:Nat->Nat}(c:∀i,i<q->f i<q)(d:∀i j,i<q->j<q->f i=f j->i=j){y:Nat}(l:y<q):∃x,x<q/\f x=y:=by
 apply Decidable.byContradiction;intro g;have a:y ∉ (List.range q).map f:=by
  intro k;have⟨x,b,e⟩:=List.mem_map.1 k;exact g ⟨x,by simpa using b,e⟩
 have:=mN q (y::(List.range q).map f) (List.nodup_cons.2 ⟨a,iH d⟩) (by
  intro x b;rcases List.mem_cons.1 b with rfl|b
  .exact l
  .obtain⟨i,h,rfl⟩:=List.mem_map.1 b
   exact c i (by simpa using h))
 simp at this;omega
theorem least{P:Nat->Prop}:∀n,P n->∃m,m<=n/\P m/\∀k,k<m->¬ P k:=by
 intro n
 induction n using Nat.strongRecOn with
 | _ n j=>
  intro h;by_cases d:∃k,k<n/\P k
  .have⟨k,e,f⟩:=d
   have⟨m,a,b,c⟩:=j k e f;exact⟨m,byO,b,c⟩
  .exact⟨n,Nat.le_refl _,h,λk g i=>d ⟨k,g,i⟩⟩
def Pr(p:Nat):Prop:=2<=p/\∀d,2<=d->d<p->¬ d ∣ p
theorem AX{p m:Nat}(a:Pr p)(h:¬ p ∣ m):Nat.gcd p m=1:=by
 have b:=Nat.gcd_dvd_left p m;have c:0<Nat.gcd p m:=Nat.gcd_pos_of_pos_left m (by have:=a.1;omega);have e:=Nat.le_of_dvd (by have:=a.1;omega) b;apply Decidable.byContradiction;intro f;by_cases d:Nat.gcd p m=p
 .apply h
  rw[<-d];exact Nat.gcd_dvd_right p m
 .exact a.2 _ byO byO b
section
variable {K:Type}[Fd K]
def Ord(a:K)(n:Nat):Prop:=0<n/\pw a n=1/\∀m,0<m->m<n->pw a m≠1
theorem wS{a:K}{n:Nat}(h:pw a n=1)(k:Nat):pw a (k%n)=pw a k:=by
 have e:k=n*(k/n)+k%n:=(Nat.div_add_mod k n).symm;have:pw a k=pw a (n*(k/n))*pw a (k%n):=by rw[<-iJ,<-e]
 rw[this,A3,h,AR,one_mul]
theorem qn{a:K}{n k:Nat}(h:Ord a n)(e:pw a k=1):n ∣ k:=by have⟨b,c,d⟩:=h;rw[Nat.dvd_iff_mod_eq_zero];apply Decidable.byContradiction;intro f;exact d (k%n) byO (Nat.mod_lt k b) (by rw[wS c,e])
structure Num (K:Type)[Fd K] where
 q:Nat
 val:K->Nat
 lt:∀x,val x<q
 inj:∀x y,val x=val y->x=y
 sur:∀i,i<q->∃x,val x=i
 v0:val 0=0
variable (N:Num K)
theorem Num.elems:∃l:List K,l.Nodup/\l.length=N.q-1/\(∀x,x ∈ l↔x≠0):=by
 have a:∃f:Nat->K,∀i,i<N.q->N.val (f i)=i:=
  ⟨λi=>if h:i<N.q then(N.sur i h).choose else 0,λi h=>by simp[h,dif_pos];exact(N.sur i h).choose_spec⟩
 have⟨f,a⟩:=a;refine⟨(List.range<|N.q-1).map λi=>f<|i+1,iH ?_,by simp,λx=>?_⟩
 .intro i j d n e
  have c:=a (i+1) byO;have g:=a (j+1) byO;rw[e,g]at c;omega
 .constructor
  .intro m e
   have⟨i,d,b⟩:=List.mem_map.1 m;have k:i<N.q-1:=by simpa using d
   have c:=a (i+1) byO;have b:f (i+1)=x:=b;rw[b,e,N.v0]at c;omega
  .intro h
   have p:N.val x≠0:=λe=>h<|N.inj x 0 (by rw[e,N.v0]);have o:=N.lt x;refine List.mem_map.2 ⟨N.val x-1,by simp;omega,?_⟩;show f (N.val x-1+1)=x;apply N.inj;rw[a _ byO];omega
theorem Num.ord(a:K)(s:a≠0):∃n,Ord a n/\n<=N.q-1:=by
 have f:∃n,0<n/\pw a n=1/\n<=N.q-1:=by
  apply Classical.byContradiction;intro z;have⟨l,_,G,u⟩:=N.elems;have b:∀i j,i<N.q->j<N.q->N.val (pw a i)=N.val (pw a j)->i=j:=by
   have d:∀i k,i+k<N.q->pw a i=pw a (i+k)->k=0:=by
    intro i k t e;rw[iJ]at e;have v:pw a k=1:=by
     symm
     apply mul_left_cancel<|dZ s i;rw[mul_one];exact e
    apply Decidable.byContradiction;intro A;exact z ⟨k,byO,v,byO⟩
   intro i j E F e;have e:=N.inj _ _ e;rcases Nat.le_total i j with h|h
   .have:=d i (j-i) byO (by rw[show i+(j-i)=j by omega];exact e);omega
   .have:=d j (i-j) byO (by rw[show j+(i-j)=i by omega];exact e.symm);omega
  have c:=mN N.q (0::(List.range N.q).map λi=>N.val<|pw a i) (List.nodup_cons.2 ⟨by
   intro B;have⟨i,_,e⟩:=List.mem_map.1 B;exact dZ s i<|N.inj _ _ (by rw[N.v0];exact e),iH b⟩) (by
   intro x r;rcases List.mem_cons.1 r with rfl|r
   .exact Nat.lt_of_le_of_lt (Nat.zero_le _)<|N.lt 0
   .obtain⟨i,_,rfl⟩:=List.mem_map.1 r
    exact N.lt _)
  simp at c;omega
 have⟨n,w,y,D⟩:=f;have⟨m,C,⟨o,p⟩,q⟩:=least (P:=λk=>0<k/\pw a k=1) n ⟨w,y⟩;exact⟨m,⟨o,p,λk t g e=>q k g ⟨t,e⟩⟩,byO⟩
end
end Go.RS
namespace Go.RS
instance boolFd:Fd Bool where
 add:=xor
 mul:=and
 neg:=id
 zero:=false
 one:=true
 inv:=id
 add_assoc':=by decide
 add_comm':=by decide
 add_zero':=by decide
 add_neg':=by decide
 mul_assoc':=by decide
 mul_comm':=by decide
 mul_one':=by decide
 mul_add':=by decide
 mul_inv':=by decide
 one_ne':=by decide
 dec:=inferInstance
def bt(a:Nat):Ser Bool:=λi=>a.testBit i
theorem rD{a b:Nat}(h:bt a=bt b):a=b:=Nat.eq_of_testBit_eq λi=>congrFun h i
theorem EU(a b:Nat):bt (a ^^^ b)=λi=>bt a i+bt b i:=by funext i;exact Nat.testBit_xor a b i
theorem mj{a d:Nat}(h:a<2^(d+1)):dg (bt a) d:=λi b=>Nat.testBit_lt_two_pow<|bd₀ h<|Nat.pow_le_pow_right byO byO
theorem GA{a d:Nat}(h:dg (bt a) d):a<2^(d+1):=Nat.lt_pow_two_of_testBit a λi b=>h i byO
def ofB:Nat->(Nat->Bool)->Nat
 | 0,_=>0
 | n+1,f=>ofB n f ||| (if f n=true then 2^n else 0)
theorem Br(f:Nat->Bool)(i:Nat):∀n,(ofB n f).testBit i=(decide (i<n)&&f i)
 | 0=>by simp[ofB]
 | n+1=>by
  rw[ofB,Nat.testBit_or,Br f i n]
  grind
def cl(a b:Nat):Nat:=ofB (a+b+1)<|cv (bt a)<|bt b
theorem GB(a:Nat):a<2^(a+1):=bd₀ Nat.lt_two_pow_self<|Nat.pow_le_pow_right byO byO
theorem ky(a b:Nat):bt (cl a b)=cv (bt a) (bt b):=by
 funext i;show(ofB (a+b+1)<|cv (bt a)<|bt b).testBit i=_;rw[Br];by_cases h:i<a+b+1
 .simp[h]
 .rw[xY (mj<|GB a) (mj<|GB b) i byO]
  simp[h];rfl
theorem iQ(a b:Nat):cl a b=cl b a:=rD (by grind[ky,qe])
theorem jo(a b c:Nat):cl (cl a b) c=cl a (cl b c):=rD (by rw[ky,ky,ky,ky,xV])
theorem jd(a b c:Nat):cl a (b ^^^ c)=cl a b ^^^ cl a c:=rD (by
 rw[ky,EU,EU,ky,ky];grind[Eu])
theorem Hp(a b c:Nat):cl (a ^^^ b) c=cl a c ^^^ cl b c:=by grind[iQ,jd]
theorem NM(k:Nat):bt (2^k)=sh k s1:=by
 funext i;show(2^k).testBit i=_;rw[Nat.testBit_two_pow];unfold sh s1;by_cases h:k=i
 .subst h;simp;rfl
 .by_cases a:k<=i
  .rw[if_pos a,if_neg byO];simp[h];rfl
  .rw[if_neg a];simp[h];rfl
theorem gP(a k:Nat):cl a (2^k)=a <<< k:=rD (by
 rw[iQ,ky,NM,Lp,rO];funext i;show sh k (bt a) i=(a <<< k).testBit i;rw[Nat.testBit_shiftLeft];by_cases h:k<=i
 .rw[oy _ h];simp[h,bt]
 .rw[sw _ byO];simp[h];rfl)
theorem vO(a:Nat):cl a 1=a:=by have:=gP a 0;simpa using this
theorem Tn:bt 0=λ_=>0:=by funext i;exact Nat.zero_testBit i
theorem fw(a:Nat):cl a 0=0:=rD (by rw[ky,Tn,b])
where b {p:Ser Bool}:cv p (λ_=>0)=λ_=>0:=by funext n;exact ek λi _=>mul_zero _
theorem gH{n:Nat}(h:n≠0):2^n.log2<=n:=Nat.log2_self_le h
theorem cV(n:Nat):n<2^(n.log2+1):=Nat.lt_log2_self
theorem j0{n:Nat}(h:n≠0):n.testBit n.log2=true:=by
 apply Decidable.byContradiction;intro b;have a:n.testBit n.log2=false:=by simpa using b
 have:n<2^n.log2:=Nat.lt_pow_two_of_testBit n λi c=>by
  by_cases e:i=n.log2
  .rw[e];exact a
  .exact Nat.testBit_lt_two_pow<|bd₀ (cV n)<|Nat.pow_le_pow_right byO byO
 have:=gH h;omega
theorem lU{n d:Nat}(c:2^d<=n)(e:n<2^(d+1)):n.log2=d:=by
 have h:n≠0:=by have:0<2^d:=Nat.pow_pos byO;omega
 have f:=gH h;have g:=cV n;have a:n.log2<d+1:=(Nat.pow_lt_pow_iff_right byO).1<|Nat.lt_of_le_of_lt f e;have b:d<n.log2+1:=(Nat.pow_lt_pow_iff_right byO).1<|Nat.lt_of_le_of_lt c g;omega
theorem zT{a b:Nat}(c:a≠0)(d:b≠0):(cl a b).testBit (a.log2+b.log2)=true:=by
 have:=congrFun (ky a b)<|a.log2+b.log2;show bt (cl a b) (a.log2+b.log2)=true;rw[this];unfold cv;rw[pq (k:=a.log2) byO (λi f e=>by
  by_cases h:a.log2<i
  .rw[mj (cV a) i h,zero_mul]
  .rw[mj (cV b) _ byO,mul_zero])]
 rw[show a.log2+b.log2-a.log2=b.log2 by omega];show(a.testBit a.log2&&b.testBit b.log2)=true;rw[j0 c,j0 d];rfl
theorem Ln{a b:Nat}:cl a b<2^(a.log2+b.log2+1):=GA (by
 rw[ky];exact xY (mj<|cV a)<|mj<|cV b)
theorem rK{a b:Nat}(c:a≠0)(d:b≠0):cl a b≠0:=by grind[zT]
theorem zS{a b:Nat}(c:a≠0)(d:b≠0):(cl a b).log2=a.log2+b.log2:=
 lU (Nat.ge_two_pow_of_testBit<|zT c d) Ln
theorem na{a b c:Nat}(h:a ^^^ b=c):a=c ^^^ b:=by grind
theorem E7(q:Nat)(g:q≠0):∀p,∃m r,r<2^q.log2/\p=cl q m ^^^ r:=by
 intro p
 induction p using Nat.strongRecOn with
 | _ p o=>
  by_cases h:p<2^q.log2
  .exact⟨0,p,h,by rw[fw,Nat.zero_xor]⟩
  .have f:p≠0:=by have:0<2^q.log2:=Nat.pow_pos byO;omega
   have k:q.log2<=p.log2:=by
    have a:=cV p;have:2^q.log2<2^(p.log2+1):=byO;have:=(Nat.pow_lt_pow_iff_right (by omega:1<2)).1 this;omega
   have n:(q <<< (p.log2-q.log2)).log2=p.log2:=by
    rw[<-gP,zS g<|Nat.pos_iff_ne_zero.1<|Nat.pow_pos byO,lU (Nat.le_refl _)<|Nat.pow_lt_pow_right byO byO];omega
   have d:q <<< (p.log2-q.log2)≠0:=by rw[<-gP];exact rK g<|Nat.pos_iff_ne_zero.1<|Nat.pow_pos byO
   have c:p ^^^ q <<< (p.log2-q.log2)<2^p.log2:=Nat.lt_pow_two_of_testBit _ λi s=>by
    rw[Nat.testBit_xor];by_cases e:i=p.log2
    .have:=j0 d
     rw[n]at this;rw[e,j0 f,this];rfl
    .have a:=mj (cV p) i byO
     have b:=mj (cV<|q <<< (p.log2-q.log2)) i byO;have a:p.testBit i=false:=a;have b:(q <<< (p.log2-q.log2)).testBit i=false:=b;rw[a,b];rfl
   have⟨m,r,l,j⟩:=o _<|bd₀ c<|gH f;refine⟨m ^^^ 2^(p.log2-q.log2),r,l,?_⟩;rw[jd,gP]
   conv=>lhs;rw[na j]
   rw[Nat.xor_assoc,Nat.xor_comm r,<-Nat.xor_assoc]
theorem xK{q m:Nat}(b:q≠0)(h:cl q m<2^q.log2):m=0:=by apply Decidable.byContradiction;intro a;have:=Nat.ge_two_pow_of_testBit<|zT b a;have c:2^q.log2<=2^(q.log2+m.log2):=Nat.pow_le_pow_right byO byO;omega
theorem Gl{q m a r r':Nat}(b:q≠0)(g:r<2^q.log2)(c:r'<2^q.log2)(h:cl q m ^^^ r=cl q a ^^^ r'):r=r':=by
 have e:cl q (m ^^^ a)=r ^^^ r':=by
  rw[jd];have d:=na h
  grind
 have f:=xK b (by rw[e];simp_all[Nat.xor_lt_two_pow])
 grind[fw,na]
def Irr(p:Nat):Prop:=∀t,2<=t->2*t.log2<=p.log2->¬ ∃m,p=cl t m
theorem DD{p a b:Nat}(x:Irr p)(v:a<2^p.log2)(A:b<2^p.log2)(B:∃m,cl a b=cl p m):a=0\/b=0:=by
 apply Decidable.byContradiction;intro w;have l:a≠0:=λe=>w<|.inl e;have o:b≠0:=λe=>w<|.inr e;have j:p≠0:=by
  rintro rfl;have h:Nat.log2 0=0:=by decide
  rw[h]at v;omega
 have⟨a',_,⟨k,y,m,f⟩,i⟩:=least (P:=λa=>a≠0/\a<2^p.log2/\∃m,cl a b=cl p m) a ⟨l,v,B⟩;have⟨q,r,C,c⟩:=E7 a' k p;have d:r=0:=by
  apply Decidable.byContradiction;intro d;have s:r<a':=bd₀ C<|gH k;refine i r s ⟨d,byO,b ^^^ cl q m,?_⟩;have e:r=p ^^^ cl a' q:=by rw[c,Nat.xor_comm (cl a' q) r,Nat.xor_assoc,Nat.xor_self,Nat.xor_zero]
  rw[jd,e,Hp,iQ a' q,jo,f,<-jo,iQ q p,jo]
 rw[d,Nat.xor_zero]at c;have t:q≠0:=by rintro rfl;rw[fw]at c;exact j c
 have g:=zS k t;rw[<-c]at g;have n:2<=a':=by
  have:a'≠1:=by
   rintro rfl;rw[iQ,vO]at f;have:=xK j (by rw[<-f];exact A);rw[this,fw]at f;exact o f
  omega
 have z:a'.log2<p.log2:=by
  have:=Nat.lt_of_le_of_lt (gH k) y;exact(Nat.pow_lt_pow_iff_right (by omega:1<2)).1 this
 have u:2<=q:=by
  have:q≠1:=by
   rintro rfl;have h:Nat.log2 1=0:=by decide
   omega
  omega
 rcases Nat.lt_or_ge p.log2 (2*a'.log2)with h|h
 .exact x q u byO ⟨a',by rw[iQ];exact c⟩
 .exact x a' n h ⟨q,c⟩
structure FD where
 q:Nat
 poly:Nat
def FD.Ok(f:FD):Prop:=(f.poly=0/\2<f.q/\f.q<=4096/\Pr f.q)\/(f.poly≠0/\2<=f.poly/\f.poly.log2<=12/\f.q=2^f.poly.log2/\Irr f.poly)
structure El (f:FD) where
 val:Nat
 lt:val<f.q
theorem El.ext{f:FD}{a b:El f}(h:a.val=b.val):a=b:=by cases a;simp_all
theorem oT{p:Nat}(h:2<=p):1<=p.log2:=by have a:=cV p;apply Decidable.byContradiction;intro b;have:p.log2=0:=byO;rw[this]at a;omega
theorem FD.Ok.two{f:FD}(h:f.Ok):2<=f.q/\f.q<=4096:=by
 rcases h with ⟨_,c,d,_⟩|⟨_,c,d,e,_⟩
 .omega
 .rw[e]
  have:=oT c;have a:2^1<=2^f.poly.log2:=Nat.pow_le_pow_right byO this;have b:2^f.poly.log2<=2^12:=Nat.pow_le_pow_right byO d;omega
theorem Gk(p q:Nat)(a:q≠0):∃r,r<2^q.log2/\∃m,p=cl q m ^^^ r:=by have⟨m,r,b,c⟩:=E7 q a p;grind
noncomputable def rm(p q:Nat):Nat:=if h:q≠0 then(Gk p q h).choose else 0
theorem yn{q:Nat}(a:q≠0)(p:Nat):rm p q<2^q.log2:=by unfold rm;rw[dif_pos a];exact(Gk p q a).choose_spec.1
theorem uj{q:Nat}(a:q≠0)(p:Nat):∃m,p=cl q m ^^^ rm p q:=by grind[rm]
theorem uk{q:Nat}(a:q≠0){p r m:Nat}(c:r<2^q.log2)(h:p=cl q m ^^^ r):rm p q=r:=by have⟨d,b⟩:=uj a p;exact Gl a (yn a p) c<|b.symm.trans h
theorem wU{q:Nat}(a:q≠0)(p m:Nat):rm (p ^^^ cl q m) q=rm p q:=by
 have⟨c,b⟩:=uj a p;apply uk a (yn a p) (m:=c ^^^ m);rw[jd]
 conv=>lhs;rw[b]
 rw[Nat.xor_assoc,Nat.xor_comm<|rm p q,Nat.xor_assoc]
theorem ic{q r:Nat}(a:q≠0)(b:r<2^q.log2):rm r q=r:=uk a b (m:=0) (by rw[fw,Nat.zero_xor])
theorem Gt{q:Nat}(c:q≠0)(a b:Nat):rm (a ^^^ b) q=rm a q ^^^ rm b q:=by
 have⟨m,h⟩:=uj c a;have⟨d,e⟩:=uj c b;apply uk c (Nat.xor_lt_two_pow (yn c a)<|yn c b) (m:=m ^^^ d);rw[jd]
 conv=>lhs;rw[h,e]
 rw[Nat.xor_assoc,Nat.xor_assoc,<-Nat.xor_assoc<|rm a q,Nat.xor_comm<|rm a q,Nat.xor_assoc<|cl q d]
theorem wV{q:Nat}(c:q≠0)(a b:Nat):rm (cl (rm a q) b) q=rm (cl a b) q:=by grind[rm,Hp,jo,wU]
theorem KE{q:Nat}(c:q≠0)(a b:Nat):rm (cl a<|rm b q) q=rm (cl a b) q:=by grind[iQ,wV]
noncomputable def fj(f:FD)(a b:Nat):Nat:=if f.poly=0 then(a+b)%f.q else a ^^^ b
noncomputable def eH(f:FD)(a b:Nat):Nat:=if f.poly=0 then a*b%f.q else rm (cl a b) f.poly
def tO(f:FD)(a:Nat):Nat:=if f.poly=0 then(f.q-a)%f.q else a
theorem BQ{f:FD}(h:f.Ok){a b:Nat}(g:a<f.q)(i:b<f.q):fj f a b<f.q:=by
 unfold fj;rcases h with ⟨c,e,_⟩|⟨c,e,j,d,_⟩
 .rw[if_pos c];exact Nat.mod_lt _ byO
 .rw[if_neg c,d];exact Nat.xor_lt_two_pow (by rw[<-d];exact g) (by rw[<-d];exact i)
theorem BR{f:FD}(h:f.Ok)(a b:Nat):eH f a b<f.q:=by
 unfold eH;rcases h with ⟨c,d,_⟩|⟨c,d,g,e,_⟩
 .rw[if_pos c];exact Nat.mod_lt _ byO
 .rw[if_neg c,e];exact yn c _
theorem BS{f:FD}(h:f.Ok){a:Nat}(b:a<f.q):tO f a<f.q:=by
 unfold tO;have:=h.two;split
 .exact Nat.mod_lt _ byO
 .exact b
theorem Cs(f:FD)(a b:Nat):eH f a b=eH f b a:=by grind[eH,iQ]
theorem zr{f:FD}(h:f.Ok)(a b c:Nat):eH f (eH f a b) c=eH f a (eH f b c):=by grind[eH,Nat.mod_mul_mod,Nat.mul_mod_mod,wV,KE,jo]
theorem rj{f:FD}(h:f.Ok)(a b c:Nat):eH f a (fj f b c)=fj f (eH f a b) (eH f a c):=by
 unfold eH fj;rcases h with ⟨d,e,_⟩|⟨d,e,g,i,_⟩
 .simp only[if_pos d]
  rw[Nat.mul_mod_mod,Nat.mul_add,<-Nat.add_mod]
 .simp[if_neg d]
  rw[jd,Gt d]
theorem AY{p a b:Nat}(d:Pr p)(h:p ∣ a*b):p ∣ a\/p ∣ b:=by
 by_cases c:p ∣ a
 .exact .inl c
 .exact .inr<|Nat.Coprime.dvd_of_dvd_mul_left (AX d c) h
theorem vT{f:FD}(h:f.Ok){a b:Nat}(j:a<f.q)(k:b<f.q)(e:eH f a b=0):a=0\/b=0:=by
 unfold eH at e;rcases h with ⟨c,i,_,p⟩|⟨c,i,q,d,o⟩
 .rw[if_pos c]at e
  have n:=Nat.dvd_of_mod_eq_zero e;rcases AY p n with h|h
  .left
   apply Decidable.byContradiction;intro l;have:=Nat.le_of_dvd byO h;omega
  .right
   apply Decidable.byContradiction;intro l;have:=Nat.le_of_dvd byO h;omega
 .rw[if_neg c]at e
  have⟨m,g⟩:=uj c<|cl a b;rw[e,Nat.xor_zero]at g;exact DD o (by rw[<-d];exact j) (by rw[<-d];exact k) ⟨m,g⟩
theorem oK{f:FD}(h:f.Ok){a:Nat}(g:a<f.q):fj f a (tO f a)=0:=by
 unfold fj tO;rcases h with ⟨b,c,_⟩|⟨b,c,d,e,_⟩
 .rw[if_pos b,if_pos b,Nat.add_mod_mod,show a+(f.q-a)=f.q by omega,Nat.mod_self]
 simp_all
theorem rf(f:FD)(a b c:Nat):fj f (fj f a b) c=fj f a (fj f b c):=by grind[fj,Nat.add_mod_mod]
theorem mE(f:FD)(a b:Nat):fj f a b=fj f b a:=by unfold fj;rw[Nat.add_comm,Nat.xor_comm]
theorem uG{f:FD}(h:f.Ok){a:Nat}(b:a<f.q):fj f a 0=a:=by grind[fj,Nat.mod_eq_of_lt]
theorem FU{f:FD}(h:f.Ok){a:Nat}(c:a<f.q):eH f a 1=a:=by
 unfold eH;rcases h with ⟨b,d,_⟩|⟨b,d,g,e,_⟩
 .rw[if_pos b,Nat.mul_one,Nat.mod_eq_of_lt c]
 .rw[if_neg b,vO,ic b (by rw[<-e];exact c)]
theorem Ct{f:FD}(h:f.Ok)(a:Nat):eH f a 0=0:=by
 unfold eH;rcases h with ⟨b,c,_⟩|⟨b,c,d,e,_⟩
 .rw[if_pos b];simp
 .rw[if_neg b,fw,ic b<|Nat.pow_pos byO]
theorem xl{f:FD}(h:f.Ok){a b c:Nat}(d:a<f.q)(g:b<f.q)(i:c<f.q)(e:fj f a b=fj f a c):b=c:=by
 have:fj f (tO f a) (fj f a b)=fj f (tO f a) (fj f a c):=by rw[e]
 grind[rf,mE,oK,uG]
theorem vS{f:FD}(h:f.Ok){a:Nat}(n:a<f.q)(m:a≠0):∃b,b<f.q/\eH f a b=1:=by
 refine qR (λi _=>BR h a i) (λi j g c e=>?_) (by have:=h.two;omega);have k:=BS h c;have l:eH f a (fj f i<|tO f j)=0:=by
  rw[rj h,e,<-rj h,oK h c,Ct h]
 rcases vT h n (BQ h g k) l with d|d
 .exact absurd d m
 .apply xl h k g c
  rw[mE f _ i,d,mE f _ j,oK h c]
@[reducible] noncomputable def FD.Ok.fd{f:FD}(h:f.Ok):Fd (El f) where
 add a b:=⟨fj f a.val b.val,BQ h a.lt b.lt⟩
 mul a b:=⟨eH f a.val b.val,BR h _ _⟩
 neg a:=⟨tO f a.val,BS h a.lt⟩
 zero:=⟨0,by have:=h.two;omega⟩
 one:=⟨1,by have:=h.two;omega⟩
 inv a:=if e:a.val≠0 then⟨(vS h a.lt e).choose,(vS h a.lt e).choose_spec.1⟩ else a
 add_assoc' a b c:=El.ext (rf f _ _ _)
 add_comm' a b:=El.ext (mE f _ _)
 add_zero' a:=El.ext (uG h a.lt)
 add_neg' a:=El.ext (oK h a.lt)
 mul_assoc' a b c:=El.ext (zr h _ _ _)
 mul_comm' a b:=El.ext (Cs f _ _)
 mul_one' a:=El.ext (FU h a.lt)
 mul_add' a b c:=El.ext (rj h _ _ _)
 mul_inv' a ha:=by
  have e:a.val≠0:=λe=>ha<|El.ext e;apply El.ext;simp[dif_pos e];exact(vS h a.lt e).choose_spec.2
 one_ne':=by intro e;have:=congrArg El.val e;simp at this
 dec a b:=if e:a.val=b.val then isTrue (El.ext e) else isFalse λe2=>e (by rw[e2])
noncomputable def FD.Ok.num{f:FD}(h:f.Ok):@Num (El f) h.fd:=@Num.mk (El f) h.fd f.q El.val El.lt (λ_ _=>El.ext) (λi hi=>⟨⟨i,hi⟩,rfl⟩) rfl
end Go.RS
namespace Go.RS
class OkC (f:FD):Prop where
 ok:f.Ok
noncomputable instance {f:FD}[h:OkC f]:Fd<|El f:=h.ok.fd
section
variable {f:FD}[OkC f]
theorem CW:(0:El f).val=0:=rfl
theorem TY:(1:El f).val=1:=rfl
theorem val_mul(a b:El f):(a*b).val=eH f a.val b.val:=rfl
theorem val_add(a b:El f):(a+b).val=fj f a.val b.val:=rfl
theorem yP{a:El f}(h:a≠0):a.val≠0:=λe=>h<|El.ext e
theorem jV{a:El f}(h:a.val=0):a=0:=El.ext h
end
section
variable {K:Type}[Fd K]
theorem wR{g:K}{n:Nat}(c:g≠0)(h:Ord g n):∀i j,i<n->j<n->pw g i=pw g j->i=j:=by
 have a:∀i k,i+k<n->pw g i=pw g (i+k)->k=0:=by
  intro i k m e;rw[iJ]at e;have b:pw g k=1:=by
   symm
   apply mul_left_cancel<|dZ c i;rw[mul_one];exact e
  apply Decidable.byContradiction;intro d;exact h.2.2 k byO byO b
 intro i j f l e;rcases Nat.le_total i j with h|h
 .have:=a i (j-i) byO (by rw[show i+(j-i)=j by omega];exact e);omega
 .have:=a j (i-j) byO (by rw[show j+(i-j)=i by omega];exact e.symm);omega
theorem Num.pow_sur(N:Num K){g:K}(b:g≠0)(h:Ord g<|N.q-1){x:K}(l:x≠0):∃n,n<N.q-1/\pw g n=x:=by
 have a:∀{y:K},y≠0->N.val y≠0:=λp e=>p<|N.inj _ 0 (by rw[e,N.v0]);have⟨n,o,e⟩:=qR (q:=N.q-1) (f:=λi=>N.val (pw g i)-1) (λi k=>by
   have c:=N.lt<|pw g i;have d:=a<|dZ b i;omega) (λi j k m e=>by
   have c:=a<|dZ b i;have d:=a<|dZ b j;exact wR b h i j k m<|N.inj _ _ byO) (y:=N.val x-1) (by
   have c:=N.lt x;have d:=a l;omega)
 refine⟨n,o,N.inj _ _ ?_⟩;have c:=a<|dZ b n;have d:=a l;omega
end
section
variable {f:FD}[OkC f]
theorem pow_sur{g:El f}(a:g≠0)(h:Ord g<|f.q-1){x:El f}(b:x≠0):∃n,n<f.q-1/\pw g n=x:=Num.pow_sur (OkC.ok (f:=f)).num a h b
end
section
variable {K:Type}[Fd K]
theorem Nl{g:K}{n k m:Nat}(h:pw g n=1)(a:k+m=n):inv (pw g k)=pw g m:=by apply uR;rw[<-iJ,a,h]
theorem N0{g:K}{n i j:Nat}(h:Ord g n)(a:i<n)(b:j<n):pw g ((i+n-j)%n)=pw g i*inv (pw g j):=by rw[wS h.2.1,Nl (m:=n-j) h.2.1 byO,<-iJ,show i+n-j=i+(n-j) by omega]
theorem J1{g:K}{n i j:Nat}(h:Ord g n):pw g ((i+j)%n)=pw g i*pw g j:=by rw[wS h.2.1,iJ]
end
end Go.RS
namespace Go.RS
section
variable {K:Type}[Fd K]
def co(l:List K):Ser K:=λi=>l.getD i 0
def tab(n:Nat)(F:Nat->K):List K:=(List.range n).map F
theorem bp(n:Nat)(F:Nat->K):(tab n F).length=n:=by simp[tab]
theorem tu{l:List K}{i:Nat}(h:i<l.length):co l i=l[i]:=by grind[co]
theorem iL{l:List K}{i:Nat}(h:l.length<=i):co l i=0:=by unfold co;rw[au₀,av₀ h];rfl
theorem ll{n:Nat}{F:Nat->K}{i:Nat}(h:i<n):(tab n F).getD i 0=F i:=by grind[tab]
theorem iB(n:Nat)(F:Nat->K)(i:Nat):co (tab n F) i=if i<n then F i else 0:=by
 split
 next h=>exact ll h
 next h=>exact iL (by rw[bp];omega)
theorem bM{n:Nat}{F G:Nat->K}(h:∀i,i<n->F i=G i):tab n F=tab n G:=by grind[tab,List.map_congr_left]
theorem HW(l:List K):tab l.length (co l)=l:=by grind[List.ext_getElem,bp,tab,tu]
theorem j6{n:Nat}{F:Nat->K}{k:Nat}{v:K}:(tab n F).set k v=tab n λi=>if i=k then v else F i:=by
 apply List.ext_getElem
 .simp[tab]
 .intro i a b
  rw[List.getElem_set];simp[tab,List.getElem_map,List.getElem_range];split
  next h=>rw[if_pos h.symm]
  next h=>rw[if_neg λe=>h e.symm]
theorem fJ(n:Nat):List.replicate n (0:K)=tab n λ_=>0:=by
 apply List.ext_getElem
 all_goals grind[tab]
theorem Aj{n:Nat}{F:Nat->K}{l:List K}(h:l.length=n)(a:∀i,i<n->co l i=F i):l=tab n F:=by rw[<-HW l,h];exact bM a
theorem Iz{l m:List K}(h:l.length=m.length)(a:∀i,i<l.length->co l i=co m i):l=m:=by grind[HW,bM]
def hor(l:List K)(x:K):K:=l.foldr (λc v=>v*x+c) 0
theorem Fa(x:K):∀l:List K,hor l x=sm l.length λi=>co l i*pw x i
 | []=>rfl
 | c::l=>by
  show hor l x*x+c=_;rw[ak₀,hO,Fa x l,lh]
  grind[co,pw,mul_one,add_comm,mul_assoc]
def dS(l:List K)(x:K):K:=l.foldl (λv c=>v*x+c) 0
theorem qJ(l m:List K)(x:K):dS (l++m) x=m.foldl (λv c=>v*x+c) (dS l x):=by unfold dS;rw[List.foldl_append]
theorem sB{l:List K}{i:Nat}(h:i<l.length)(x:K):dS (l.take<|i+1) x=dS (l.take i) x*x+co l i:=by grind[List.take_add_one,qJ,tu]
theorem Ff(l:List K)(x:K):dS l x=hor l.reverse x:=by unfold dS hor;rw[List.foldr_reverse]
theorem mH(x:K):∀l:List K,dS l x=sm l.length λi=>co l i*pw x (l.length-1-i):=by
 intro l;rw[Ff,Fa,List.length_reverse,sy]
 grind[bW,tu]
def rows(p q:Ser K)(i k:Nat):K:=sm i λa=>p a*sh a q k
theorem KF{p q:Ser K}{n:Nat}(f:∀i,n<=i->p i=0)(k:Nat):rows p q n k=cv p q k:=by
 unfold rows cv;have c:sm (max n<|k+1) (λa=>p a*sh a q k)=sm n λa=>p a*sh a q k:=l7 byO λi b e=>by rw[f i b,zero_mul]
 have d:sm (max n<|k+1) (λa=>p a*sh a q k)=sm (k+1) λa=>p a*sh a q k:=l7 byO λi b e=>by rw[sw _ byO,mul_zero]
 rw[<-c,d];exact bW λi g=>by rw[oy _ byO]
theorem D7(p q:Ser K)(i k:Nat):rows p q (i+1) k=rows p q i k+p i*sh i q k:=rfl
def trim:List K->List K
 | []=>[]
 | a::l=>match trim l with
  | []=>if a=0 then[] else[a]
  | m=>a::m
theorem lp:∀l:List K,trim (l++[0])=trim l
 | []=>by simp[trim]
 | a::l=>by simp[am₀,trim,lp l]
theorem pC{b:K}(c:b≠0):∀l:List K,trim (l++[b])=l++[b]
 | []=>by simp[trim,c]
 | a::l=>by
  simp only[am₀,trim,pC c l];split
  next h=>simp at h
  .rfl
theorem uy{l:List K}:∀{n:Nat},n<=l.length->(∀i,n<=i->co l i=0)->trim (l.take n)=trim l:=by
 intro n e b;have a:∀k,n+k<=l.length->trim (l.take<|n+k)=trim (l.take n):=by
  intro k
  induction k with
  | zero=>intro _;rfl
  | succ k c=>
   intro d;rw[<-Nat.add_assoc,List.take_add_one,bc₀ (show n+k<l.length by omega)];have:l[n+k]=0:=by rw[<-tu (show n+k<l.length by omega)];exact b _ byO
   rw[this,Option.toList_some,lp,c byO]
 have:=a (l.length-n) byO;rw[show n+(l.length-n)=l.length by omega,List.take_length]at this;exact this.symm
theorem Dg{l:List K}{n:Nat}(a:n<l.length)(h:co l n≠0):trim (l.take<|n+1)=l.take (n+1):=by grind[List.take_add_one,pC,tu]
theorem nz:∀(l:List K) (i:Nat),co (trim l) i=co l i
 | [],_=>rfl
 | a::l,i=>by
  have b:=nz l;simp[trim];split
  next h=>
   rw[h]at b;split
   next c=>
    cases i with
    | zero=>rw[c];rfl
    | succ i=>exact b i
   .cases i with
    | zero=>rfl
    | succ i=>exact b i
  .cases i with
   | zero=>rfl
   | succ i=>exact b i
theorem qS:∀l:List K,(trim l).length<=l.length
 | []=>Nat.le_refl _
 | a::l=>by
  have:=qS l
  grind[trim]
theorem tG:∀l:List K,trim l≠[]->co l ((trim l).length-1)≠0
 | [],h=>absurd rfl h
 | a::l,h=>by
  have g:=tG l;simp[trim]at h ⊢;split at h
  next i=>
   split at h
   .exact absurd rfl h
   next c=>simp[if_neg c];exact c
  next f=>
   have b:trim l≠[]:=λe=>f e;have:=g b;show co (a::l) ((a::trim l).length-1)≠0;have d:0<(trim l).length:=List.length_pos_iff.2 b;rw[ak₀,show(trim l).length+1-1=((trim l).length-1)+1 by omega];exact this
end
end Go.RS
namespace Go.RS
section
variable {K:Type}[Fd K]
def mon(r:K):Ser K:=λn=>if n=0 then-r else if n=1 then 1 else 0
theorem OY(r:K):co [-r,1]=mon r:=by
 funext n;unfold mon
 match n with
 | 0=>rfl
 | 1=>rfl
 | n+2=>rw[if_neg byO,if_neg byO];exact iL (by simp)
theorem Ez(r:K):dg (mon r) 1:=by intro i a;unfold mon;rw[if_neg byO,if_neg byO]
theorem xW(r:K)(p:Ser K):cv p (mon r) 0=- (p 0*r):=by rw[BJ];show p 0*- r=_;rw[mul_neg]
theorem zg(r:K)(p:Ser K)(n:Nat):cv p (mon r) (n+1)=p n-p (n+1)*r:=by rw[qe];unfold cv;rw[hO,hO,ek (n:=n) λi _=>by unfold mon;rw[if_neg byO,if_neg byO,zero_mul]];show-r*p (n+1)+(1*p n+0)=_;exact(show(((-r)*(p<|n+1))+((1*(p n))+0))=((p n)-((p<|n+1)*r)) from cY [r,(p<|n+1),(p n)] (.add (.mul (.neg<|.v 0)<|.v 1)<|.add (.mul .one<|.v 2) .zero) (.add (.v 2)<|.neg<|.mul (.v 1)<|.v 0) rfl)
def gp(rs:Nat->K):Nat->Ser K
 | 0=>s1
 | n+1=>cv (gp rs n)<|mon<|rs n
theorem tv(rs:Nat->K):∀n,dg (gp rs n) n
 | 0=>Lq
 | n+1=>xY (tv rs n)<|Ez _
theorem zy(rs:Nat->K):∀n,gp rs n n=1
 | 0=>rfl
 | n+1=>by
  show cv (gp rs n) (mon<|rs n) (n+1)=1;rw[zg,zy rs n,tv rs n (n+1) byO,zero_mul];exact(show(1-0)=1 from cY [((1:K))] (.add .one<|.neg .zero) .one rfl)
def lC(rs:Nat->K)(n:Nat):List K:=tab (n+1)<|gp rs n
theorem jv(rs:Nat->K)(n:Nat):(lC rs n).length=n+1:=bp _ _
theorem ny(rs:Nat->K)(n:Nat):co (lC rs n)=gp rs n:=by
 funext i;unfold lC;rw[iB];split
 .rfl
 .exact(tv rs n i byO).symm
theorem xu{rs a:Nat->K}:∀{n:Nat},(∀i,i<n->rs i=a i)->gp rs n=gp a n
 | 0,_=>rfl
 | n+1,h=>by rw[gp,gp,xu λi b=>h i byO,h n byO]
theorem PJ(r x:K):pv (mon r) 1 x=x-r:=by unfold pv;rw[bm,Ad];show-r*1+1*pw x 1=_;rw[p9];exact(show(((-r)*1)+(1*x))=(x-r) from cY [r,x] (.add (.mul (.neg<|.v 0) .one)<|.mul .one<|.v 1) (.add (.v 1)<|.neg<|.v 0) rfl)
theorem nW(rs:Nat->K):∀n i,i<n->pv (gp rs n) n (rs i)=0
 | 0,i,h=>by omega
 | n+1,i,h=>by
  have:=yk (tv rs n) (Ez<|rs n)<|rs i;show pv (cv (gp rs n)<|mon<|rs n) (n+1) (rs i)=0;rw[this,PJ];by_cases e:i=n
  .rw[e,sub_self,mul_zero]
  .rw[nW rs n i byO,zero_mul]
end
end Go.RS
namespace Go.RS
section
variable {K:Type}[Fd K]
theorem nN(x v:K):∀m:List K,m.foldl (λv c=>v*x+c) v=v*pw x m.length+dS m x
 | []=>by
  show v=v*1+0;rw[mul_one,add_zero]
 | c::m=>by
  show m.foldl (λv c=>v*x+c) (v*x+c)=v*pw x (m.length+1)+m.foldl (λv c=>v*x+c) (0*x+c);rw[nN x (v*x+c) m,nN x (0*x+c) m,eC];exact(show((((v*x)+c)*(pw x m.length))+(dS m x))=((v*((pw x m.length)*x))+((((0*x)+c)*(pw x m.length))+(dS m x))) from cY [v,x,c,(pw x m.length),(dS m x)] (.add (.mul (.add (.mul (.v 0)<|.v 1)<|.v 2)<|.v 3)<|.v 4) (.add (.mul (.v 0)<|.mul (.v 3)<|.v 1)<|.add (.mul (.add (.mul .zero<|.v 1)<|.v 2)<|.v 3)<|.v 4) rfl)
theorem Fe(l m:List K)(x:K):dS (l++m) x=dS l x*pw x m.length+dS m x:=by rw[qJ,nN]
def Ds(rt:Nat->K)(r:Nat)(w:List K):Prop:=∀i,i<r->dS w (rt i)=0
theorem ta{p:Ser K}{m:Nat}{xs:List K}(G:dg p m)(I:xs.length=m+1)(w:xs.Nodup)(k:∀x ∈ xs,x≠0)(z:∀x ∈ xs,pv p m x=0):∀i,p i=0:=by
 have d:(xs.take m).length=m:=by simp;omega
 have c:∀x ∈ xs.take m,x ∈ xs:=λx l=>List.mem_of_mem_take l;have g:((xs.take m).map inv).Nodup:=by
  rw[List.nodup_iff_pairwise_ne,List.pairwise_map];refine List.Pairwise.imp_of_mem ?_<|List.nodup_iff_pairwise_ne.1<|w.sublist<|List.take_sublist m xs;intro a b D E f e;apply f;rw[<-inv_inv<|k a<|c a D,e,inv_inv<|k b<|c b E]
 have⟨q,y,r⟩:=uo ((xs.take m).map inv) (xs.take m) p 0 (by simp) g (λi h C=>by
  rw[List.getElem_map];exact inv_mul<|k _<|c _<|List.getElem_mem C) (by rw[ay₀,d];exact G) (λx l=>by rw[ay₀,d];exact z x<|c x l)
 have s:m<xs.length:=byO;have o:inv xs[m] ∉ (xs.take m).map inv:=by
  intro t;have⟨x,l,e⟩:=List.mem_map.1 t;have B:x=xs[m]:=by rw[<-inv_inv<|k x<|c x l,e,inv_inv<|k _<|List.getElem_mem s]
  have⟨i,F,v⟩:=List.getElem_of_mem l;rw[List.getElem_take,B]at v;have:=(List.getElem_inj w).1 v;simp at F;omega
 have f:=sY o<|inv_mul<|k _<|List.getElem_mem s;rw[ay₀,d]at f;have n:=vP<|(xs.take m).map inv;rw[ay₀,d]at n;have A:=yk n y xs[m];rw[<-r,Nat.add_zero,z _<|List.getElem_mem s]at A;have u:q 0=0:=by
  rcases mul_eq_zero A.symm with h|h
  .exact absurd h f
  .unfold pv at h
   rw[Ad,iZ,mul_one]at h;exact h
 intro i;rw[r];refine ek λj H=>?_;by_cases e:i-j=0
 .rw[e,u,mul_zero]
 .rw[y (i-j) byO,mul_zero]
theorem yB(w:List K)(x:K):dS w x=sm w.length λj=>co w (w.length-1-j)*pw x j:=by rw[mH,sy];refine bW λi a=>?_;rw[show w.length-1-(w.length-1-i)=i by omega]
theorem IP{rt:Nat->K}{r:Nat}{w w':List K}(H:1<=r)(B:∀i j,i<r->j<r->rt i=rt j->i=j)(y:∀i,i<r->rt i≠0)(C:Ds rt r w)(n:Ds rt r w')(f:w.length=w'.length)(k:r<=w.length)(t:∀i,i<w.length-r->co w i=co w' i):w=w':=by
 have D:=ta (p:=λj=>if j<r then co w (w.length-1-j)-co w' (w.length-1-j) else 0) (m:=r-1) (xs:=(List.range r).map rt)
  (λi c=>if_neg byO) (by simp;omega) (by
   rw[List.nodup_iff_pairwise_ne,List.pairwise_map];refine List.Pairwise.imp_of_mem ?_<|List.nodup_iff_pairwise_ne.1 List.nodup_range;intro a b z A l e;exact l<|B a b (by simpa using z) (by simpa using A) e) (by
   intro x o;obtain⟨i,c,rfl⟩:=List.mem_map.1 o;exact y i (by simpa using c)) (by
   intro x o;obtain⟨i,c,rfl⟩:=List.mem_map.1 o;have c:i<r:=by simpa using c
   have q:=C i c;have g:=n i c;rw[yB]at q g;have s:sm w.length (λj=>(if j<r then co w (w.length-1-j)-co w' (w.length-1-j) else 0)*pw (rt i) j)=0:=by
    have:sm w.length (λj=>(if j<r then co w (w.length-1-j)-co w' (w.length-1-j) else 0)*pw (rt i) j)=sm w.length λj=>co w (w.length-1-j)*pw (rt i) j+- (co w' (w'.length-1-j)*pw (rt i) j):=by
     refine bW λj G=>?_;by_cases d:j<r
     .rw[if_pos d,f]
      exact(show(((co w<|w'.length-1-j)-(co w'<|w'.length-1-j))*(pw (rt i) j))=(((co w<|w'.length-1-j)*(pw (rt i) j))+(-((co w'<|w'.length-1-j)*(pw (rt i) j)))) from cY [(co w<|w'.length-1-j),(co w'<|w'.length-1-j),(pw (rt i) j)] (.mul (.add (.v 0)<|.neg<|.v 1)<|.v 2) (.add (.mul (.v 0)<|.v 2)<|.neg<|.mul (.v 1)<|.v 2) rfl)
     .rw[if_neg d,t (w.length-1-j) byO,f]
      exact(show(0*(pw (rt i) j))=(((co w'<|w'.length-1-j)*(pw (rt i) j))+(-((co w'<|w'.length-1-j)*(pw (rt i) j)))) from cY [(co w'<|w'.length-1-j),(pw (rt i) j)] (.mul .zero<|.v 1) (.add (.mul (.v 0)<|.v 1)<|.neg<|.mul (.v 0)<|.v 1) rfl)
    rw[this,pj,q,<-we];rw[<-f]at g;have u:sm w.length (λj=>co w' (w'.length-1-j)*pw (rt i) j)=0:=by rw[<-f];exact g
    rw[u];exact(show(0+(-0))=0 from cY [((1:K))] (.add .zero<|.neg .zero) .zero rfl)
   unfold pv;rw[show r-1+1=r by omega];rw[l7 (m:=r) k λj E F=>by rw[if_neg byO,zero_mul]]at s;exact s)
 refine Iz f λi c=>?_;by_cases h:i<w.length-r
 .exact t i h
 .have:=D<|w.length-1-i
  rw[if_pos byO,show w.length-1-(w.length-1-i)=i by omega]at this;exact sub_eq_zero this
theorem DG{rt:Nat->K}{r i:Nat}(s:i<r){a b:List K}(t:a.length=r)(e:b.length=r){d q:K}(u:q=d+co a 0)(h:∀k,k<r->co b k=co a (k+1)-q*gp rt r (r-1-k)) :
  dS b (rt i)=dS a (rt i)*rt i+d*pw (rt i) r:=by
 have y:0<r:=byO;generalize w:rt i=x;have c:pv (gp rt r) r x=0:=by rw[<-w];exact nW rt r i s
 unfold pv at c;rw[bm,zy,one_mul]at c;have g:dS b x=sm r (λk=>co a (k+1)*pw x (r-1-k))+- (q*sm r λj=>gp rt r j*pw x j):=by
  rw[mH,e,sy λj=>gp rt r j*pw x j,l9,we,<-pj];refine bW λk f=>?_;rw[h k f];exact(show(((co a<|k+1)-(q*(gp rt r<|r-1-k)))*(pw x<|r-1-k))=(((co a<|k+1)*(pw x<|r-1-k))+(-(q*((gp rt r<|r-1-k)*(pw x<|r-1-k))))) from cY [(co a<|k+1),q,(gp rt r<|r-1-k),(pw x<|r-1-k)] (.mul (.add (.v 0)<|.neg<|.mul (.v 1)<|.v 2)<|.v 3) (.add (.mul (.v 0)<|.v 3)<|.neg<|.mul (.v 1)<|.mul (.v 2)<|.v 3) rfl)
 have m:sm r (λk=>co a (k+1)*pw x (r-1-k))=dS a x*x-co a 0*pw x r:=by
  rw[mH,t];obtain⟨n,rfl⟩:∃n,r=n+1:=⟨r-1,byO⟩;rw[bm,iL (l:=a) byO,zero_mul,add_zero,hO,Nat.sub_zero,Nat.add_sub_cancel,add_mul,lh,eC];have o:sm n (λk=>co a (k+1)*pw x (n-k))=sm n λi=>co a (i+1)*pw x (n-(i+1))*x:=by
   refine bW λk f=>?_;rw[show n-k=(n-(k+1))+1 by omega,eC,mul_assoc]
  rw[o];exact(show(sm n λi=>co a (i+1)*pw x (n-(i+1))*x)=(((((co a 0)*(pw x n))*x)+(sm n λi=>co a (i+1)*pw x (n-(i+1))*x))-((co a 0)*((pw x n)*x))) from cY [(sm n λi=>co a (i+1)*pw x (n-(i+1))*x),(co a 0),(pw x n),x] (.v 0) (.add (.add (.mul (.mul (.v 1)<|.v 2)<|.v 3)<|.v 0)<|.neg<|.mul (.v 1)<|.mul (.v 2)<|.v 3) rfl)
 have p:sm r (λj=>gp rt r j*pw x j)=- pw x r:=by
  symm
  apply iv;rw[add_comm];exact c
 rw[g,m,p,u];exact(show((((dS a x)*x)-((co a 0)*(pw x r)))+(-((d+(co a 0))*(-(pw x r)))))=(((dS a x)*x)+(d*(pw x r))) from cY [(dS a x),x,(co a 0),(pw x r),d] (.add (.add (.mul (.v 0)<|.v 1)<|.neg<|.mul (.v 2)<|.v 3)<|.neg<|.mul (.add (.v 4)<|.v 2)<|.neg<|.v 3) (.add (.mul (.v 0)<|.v 1)<|.mul (.v 4)<|.v 3) rfl)
theorem Fq{rt:Nat->K}{r:Nat}{data a:List K}(d:a.length=r)(h:∀i,i<r->dS a (rt i)=pw (rt i) r*dS data (rt i)):Ds rt r<|data++tab r λk=>- co a k:=by
 intro i b;rw[Fe,bp];have e:dS (tab r λk=>- co a k) (rt i)=- dS a (rt i):=by
  rw[mH,mH,bp,d,we];refine bW λk c=>?_;rw[iB,if_pos c,neg_mul]
 rw[e,h i b];exact(show(((dS data<|rt i)*(pw (rt i) r))+(-((pw (rt i) r)*(dS data<|rt i))))=0 from cY [(dS data<|rt i),(pw (rt i) r)] (.add (.mul (.v 0)<|.v 1)<|.neg<|.mul (.v 1)<|.v 0) .zero rfl)
theorem IS{rt:Nat->K}{r n:Nat}{data w S R:List K}{Q:Ser K}{N:Nat}(z:n=data.length+r)(l:∀k,co S k=if r<=k/\k<n then co data (n-1-k) else 0)(m:∀k,co S k=cv Q (gp rt r) k+co R k)(g:∀k,r<=k->co R k=0)(s:∀k,N<=k->Q k=0)(d:w.length=n)(v:∀i,i<data.length->co w i=co data i)(c:∀k,k<r->co w (n-1-k)=- co R k):Ds rt r w:=by
 intro i t;rw[yB,d];have o:sm n (λj=>co w (n-1-j)*pw (rt i) j)=sm n λj=>cv Q (gp rt r) j*pw (rt i) j:=by
  refine bW λj y=>?_;congr 1;have e:=m j;rw[l j]at e;by_cases b:j<r
  .rw[if_neg byO]at e
   rw[c j b];have:cv Q (gp rt r) j+co R j=0:=e.symm;rw[add_comm]at this;exact iv this
  .rw[if_pos byO,g j byO,add_zero]at e
   rw[v (n-1-j) byO,e]
 have a:dg Q N:=λk u=>s k byO;have x:∀k,n<=k->cv Q (gp rt r) k=0:=by
  intro k u;have e:=m k;rw[l k,if_neg byO,g k byO,add_zero]at e;exact e.symm
 have p:sm n (λj=>cv Q (gp rt r) j*pw (rt i) j)=pv (cv Q<|gp rt r) (N+r) (rt i):=by
  unfold pv;rcases Nat.le_total n (N+r+1)with h|h
  .exact(l7 h λk f q=>by rw[x k f,zero_mul]).symm
  .exact l7 h λk f q=>by rw[xY a (tv rt r) k byO,zero_mul]
 rw[o,p,yk a<|tv rt r,nW rt r i t,mul_zero]
end
end Go.RS
namespace Go.RS
section
variable {K:Type}[Fd K]
def plc(g:K)(n i:Nat):K:=pw g<|n-1-i
end
end Go.RS
namespace Go.RS
def f7:FD:=⟨7,0⟩
theorem pr7:Pr 7:=⟨by decide,λd a b=>by
 have:d=2\/d=3\/d=4\/d=5\/d=6:=byO;rcases this with rfl|rfl|rfl|rfl|rfl<;>decide⟩
instance ok7:OkC f7:=⟨.inl ⟨rfl,by decide,by decide,pr7⟩⟩
def e7(n:Nat)(h:n<7:=by decide):El f7:=⟨n,h⟩
end Go.RS
