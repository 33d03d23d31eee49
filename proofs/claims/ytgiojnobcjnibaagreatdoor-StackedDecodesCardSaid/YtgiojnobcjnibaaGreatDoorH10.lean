/- Lemmas. -/
import Derived.Test.YtgiojnobcjnibaaGreatDoorH1
import Derived.KernelRfl
set_option linter.all false
theorem Xc{P:Prop}(h:P:=by rw[aJ];omega):P:=h
def Xr{P:Prop}(h:P:=by simp only;omega):P:=h
def X8{P:Prop}(h:P:=by simp only at c;omega):P:=h
theorem Yh{P:Prop}(h:P:=by rw[h]):P:=h
namespace Go.RS
class Fd (K:Type) where
 add:K->K->K
 mul:K->K->K
 neg:K->K
 zero:K
 one:K
 inv:K->K
 add_assoc':∀a b c,add (add a b) c=add a (add b c)
 add_comm':∀a b,add a b=add b a
 add_zero':∀a,add a zero=a
 add_neg':∀a,add a (neg a)=zero
 mul_assoc':∀a b c,mul (mul a b) c=mul a (mul b c)
 mul_comm':∀a b,mul a b=mul b a
 mul_one':∀a,mul a one=a
 mul_add':∀a b c,mul a (add b c)=add (mul a b) (mul a c)
 mul_inv':∀a,a≠zero->mul a (inv a)=one
 one_ne':one≠zero
 dec:DecidableEq K
section
variable {K:Type}[Fd K]
instance (priority:=50):Add K:=⟨Fd.add⟩
instance (priority:=50):Mul K:=⟨Fd.mul⟩
instance (priority:=50):Neg K:=⟨Fd.neg⟩
instance (priority:=50):Sub K:=⟨λa b=>Fd.add a<|Fd.neg b⟩
instance (priority:=50):OfNat K 0:=⟨Fd.zero⟩
instance (priority:=50):OfNat K 1:=⟨Fd.one⟩
instance (priority:=50):DecidableEq K:=Fd.dec
def inv(a:K):K:=Fd.inv a
theorem add_assoc(a b c:K):a+b+c=a+(b+c):=Fd.add_assoc' a b c
theorem add_comm(a b:K):a+b=b+a:=Fd.add_comm' a b
theorem add_zero(a:K):a+0=a:=Fd.add_zero' a
theorem zero_add(a:K):0+a=a:=by rw[add_comm,add_zero]
theorem add_neg(a:K):a+-a=0:=Fd.add_neg' a
theorem lY(a:K):-a+a=0:=by rw[add_comm,add_neg]
theorem sub_def(a b:K):a-b=a+-b:=rfl
theorem mul_assoc(a b c:K):a*b*c=a*(b*c):=Fd.mul_assoc' a b c
theorem mul_comm(a b:K):a*b=b*a:=Fd.mul_comm' a b
theorem mul_one(a:K):a*1=a:=Fd.mul_one' a
theorem one_mul(a:K):1*a=a:=by rw[mul_comm,mul_one]
theorem mul_add(a b c:K):a*(b+c)=a*b+a*c:=Fd.mul_add' a b c
theorem add_mul(a b c:K):(a+b)*c=a*c+b*c:=by grind[mul_comm,mul_add]
theorem iY{a:K}(h:a≠0):a*inv a=1:=Fd.mul_inv' a h
theorem inv_mul{a:K}(h:a≠0):inv a*a=1:=by rw[mul_comm,iY h]
theorem jq:(1:K)≠0:=Fd.one_ne'
theorem add_left_cancel{a b c:K}(h:a+b=a+c):b=c:=by
 have:-a+(a+b)=-a+(a+c):=Yh
 rwa [<-add_assoc,<-add_assoc,lY,zero_add,zero_add]at this
theorem mul_zero(a:K):a*0=0:=by
 have:a*0+a*0=a*0+0:=by rw[<-mul_add,add_zero,add_zero]
 grind[add_left_cancel]
theorem zero_mul(a:K):0*a=0:=by rw[mul_comm,mul_zero]
theorem kr{a b:K}(h:a+b=0):-a=b:=by grind[add_left_cancel,add_neg]
theorem neg_mul(a b:K):-a*b=-(a*b):=by symm;apply kr;rw[<-add_mul,add_neg,zero_mul]
theorem mul_neg(a b:K):a*-b=-(a*b):=by grind[mul_comm,neg_mul]
theorem neg_neg(a:K):- -a=a:=kr<|lY a
theorem neg_zero:-(0:K)=0:=kr<|add_zero 0
theorem neg_add(a b:K):-(a+b)=-a+-b:=by grind[kr,add_assoc,add_comm,add_neg,add_zero]
theorem sub_self(a:K):a-a=0:=add_neg a
theorem sub_eq_zero{a b:K}(h:a-b=0):a=b:=by
 have:a-b+b=0+b:=Yh
 grind[sub_def,add_assoc,lY,add_zero,zero_add]
theorem mul_eq_zero{a b:K}(h:a*b=0):a=0\/b=0:=by
 by_cases c:a=0
 .exact .inl c
 .right
  have:inv a*(a*b)=inv a*0:=Yh
  rwa [<-mul_assoc,inv_mul c,one_mul,mul_zero]at this
def mul_ne_zero{a b:K}(c:a≠0)(d:b≠0):a*b≠0:=λh=>(mul_eq_zero h).elim c d
theorem mul_left_cancel{a b c:K}(d:a≠0)(h:a*b=a*c):b=c:=by
 have:inv a*(a*b)=inv a*(a*c):=Yh
 rwa [<-mul_assoc,<-mul_assoc,inv_mul d,one_mul,one_mul]at this
def nT{a b:K}(h:a*b=1):inv a=b:=by
 have c:a≠0:=by grind[zero_mul,jq]
 grind[mul_left_cancel,iY]
theorem inv_inv{a:K}(b:a≠0):inv (inv a)=a:=nT<|inv_mul b
def neg_ne_zero{a:K}(h:a≠0):-a≠0:=λe=>h (by rw[<-neg_neg a,e,neg_zero])
def pw(a:K):Nat->K
 | 0=>1
 | n+1=>pw a n*a
theorem ic(a:K):pw a 0=1:=rfl
theorem fJ(a:K)(n:Nat):pw a (n+1)=pw a n*a:=rfl
theorem uY(a:K):pw a 1=a:=by rw[fJ,ic,one_mul]
theorem iB(a:K)(m:Nat):∀n,pw a (m+n)=pw a m*pw a n
 | 0=>by grind[ic,mul_one]
 | n+1=>by rw[<-Nat.add_assoc,fJ,iB a m n,fJ,mul_assoc]
theorem eG(a:K)(m:Nat):∀n,pw a (m*n)=pw (pw a m) n
 | 0=>rfl
 | n+1=>by rw[Nat.mul_succ,iB,eG a m n,fJ]
theorem jF:∀n,pw (1:K) n=1
 | 0=>rfl
 | n+1=>by rw[fJ,jF n,mul_one]
theorem qS(a b:K):∀n,pw (a*b) n=pw a n*pw b n
 | 0=>by grind[ic,mul_one]
 | n+1=>by rw[fJ,fJ,fJ,qS a b n,mul_assoc,mul_assoc,<-mul_assoc (pw b n) a b,mul_comm (pw b n) a,mul_assoc a]
def cN{a:K}(h:a≠0):∀n,pw a n≠0
 | 0=>jq
 | n+1=>mul_ne_zero (cN h n) h
end
inductive RE where
 | v (n:Nat)
 | zero
 | one
 | add (a b:RE)
 | mul (a b:RE)
 | neg (a:RE)
abbrev nw:=XN
abbrev Pol:=List<|Int×nw
def Ej:nw->nw->Ordering
 | [],[]=>.eq
 | [],_=>.lt
 | _,[]=>.gt
 | a::x,b::y=>if a<b then .lt else if b<a then .gt else Ej x y
def Em(a:Nat):nw->nw
 | []=>[a]
 | b::y=>if a<=b then a::b::y else b::Em a y
def I8:nw->nw->nw
 | [],y=>y
 | a::x,y=>Em a<|I8 x y
def rO(c:Int)(m:nw):Pol->Pol
 | []=>if c=0 then[] else[(c,m)]
 | (d,n)::r=>match Ej m n with
  | .lt=>if c=0 then(d,n)::r else(c,m)::(d,n)::r
  | .eq=>if c+d=0 then r else(c+d,n)::r
  | .gt=>(d,n)::rO c m r
def Ew:Pol->Pol->Pol
 | [],q=>q
 | (c,m)::p,q=>rO c m<|Ew p q
def wZ(c:Int)(m:nw):Pol->Pol
 | []=>[]
 | (d,n)::r=>rO (c*d) (I8 m n)<|wZ c m r
def Ir:Pol->Pol->Pol
 | [],_=>[]
 | (c,m)::p,q=>Ew (wZ c m q)<|Ir p q
def RE.norm:RE->Pol
 | .v n=>[(1,[n])]
 | .zero=>[]
 | .one=>[(1,[])]
 | .add a b=>Ew a.norm b.norm
 | .mul a b=>Ir a.norm b.norm
 | .neg a=>wZ (-1) [] a.norm
section
variable {K:Type}[Fd K]
def RE.den(env:List K):RE->K
 | .v n=>env.getD n 0
 | .zero=>0
 | .one=>1
 | .add a b=>a.den env+b.den env
 | .mul a b=>a.den env*b.den env
 | .neg a=>- a.den env
def nsm(a:K):Nat->K
 | 0=>0
 | n+1=>nsm a n+a
def ism(a:K):Int->K
 | .ofNat n=>nsm a n
 | .negSucc n=>- nsm a (n+1)
theorem pP(a:K)(m:Nat):∀n,nsm a (m+n)=nsm a m+nsm a n
 | 0=>by grind[nsm,add_zero]
 | n+1=>by rw[<-Nat.add_assoc,show nsm a (m+n+1)=nsm a (m+n)+a from rfl,pP a m n,add_assoc];rfl
def Co(a:K)(m n:Nat):ism a (Int.subNatNat m n)=nsm a m+- nsm a n:=by
 rcases Nat.lt_or_ge m n with h|h
 .obtain⟨k,rfl⟩:∃k,n=m+k+1:=⟨n-m-1,byO⟩
  rw[Int.subNatNat_of_lt byO,show m+k+1-m=k+1 by omega];show-nsm a (k+1)=_;rw[Nat.add_assoc,pP a m<|k+1,neg_add,<-add_assoc,add_neg,zero_add]
 .obtain⟨k,rfl⟩:∃k,m=n+k:=⟨m-n,byO⟩
  rw[Int.subNatNat_of_le byO,show n+k-n=k by omega];show nsm a k=_;rw[pP,add_comm<|nsm a n,add_assoc,add_neg,add_zero]
theorem xe(a:K)(m n:Int):ism a (m+n)=ism a m+ism a n:=by
 cases m with
 | ofNat m=>
  cases n with
  | ofNat n=>exact pP a m n
  | negSucc n=>exact Co a m<|n+1
 | negSucc m=>
  cases n with
  | ofNat n=>rw[add_comm];exact Co a n<|m+1
  | negSucc n=>
   show-nsm a (m+n+1+1)=- nsm a (m+1)+- nsm a (n+1);rw[<-neg_add,<-pP,show m+n+1+1=m+1+(n+1) by omega]
theorem mc(a:K):ism a 0=0:=rfl
theorem xg(a:K):ism a 1=a:=zero_add a
theorem Cn(a:K)(n:Int):ism a (-n)=- ism a n:=by
 symm;apply kr
 rw[<-xe,show n+-n=0 by omega,mc]
theorem yB(a b:K):∀n,nsm (a*b) n=nsm a n*b
 | 0=>by grind[nsm,zero_mul]
 | n+1=>by rw[show nsm (a*b) (n+1)=nsm (a*b) n+a*b from rfl,yB a b n,<-add_mul];rfl
theorem Kr(a b:K)(n:Int):ism (a*b) n=ism a n*b:=by
 cases n with
 | ofNat n=>exact yB a b n
 | negSucc n=>show-nsm (a*b) (n+1)=- nsm a (n+1)*b;rw[yB,neg_mul]
theorem mb(a:K)(m:Int):∀n:Nat,ism a (m*n)=nsm (ism a m) n
 | 0=>by rw[show m*((0:Nat):Int)=0 by simp,mc];rfl
 | n+1=>by rw[show m*((n+1:Nat):Int)=m*n+m by grind,xe,mb a m n];rfl
theorem Kq(a:K)(m n:Int):ism a (m*n)=ism (ism a m) n:=by
 cases n with
 | ofNat n=>exact mb a m n
 | negSucc n=>
  rw[show m*Int.negSucc n=-(m*((n+1:Nat):Int)) by grind,Cn,mb];rfl
theorem xf(a b:K)(m n:Int):ism (a*b) (m*n)=ism a m*ism b n:=by grind[Kq,Kr,mul_comm]
def o7(env:List K):nw->K
 | []=>1
 | a::x=>env.getD a 0*o7 env x
def l5(env:List K):Pol->K
 | []=>0
 | (c,m)::r=>ism (o7 env m) c+l5 env r
theorem Cz:∀(x y:nw),Ej x y=.eq->x=y
 | [],[],_=>rfl
 | [],_::_,h=>by grind[Ej]
 | _::_,[],h=>by grind[Ej]
 | a::x,b::y,h=>by
  simp[Ej]at h;split at h
  .cases h
  .split at h
   .cases h
   .rw[Cz x y h,show a=b by omega]
theorem zm(c:List K)(a:Nat):∀(y:nw),o7 c (Em a y)=c.getD a 0*o7 c y
 | []=>rfl
 | b::y=>by
  rw[Em];split
  .rfl
  .rw[show o7 c (b::Em a y)=c.getD b 0*o7 c (Em a y) from rfl,zm c a y,<-mul_assoc,mul_comm<|c.getD b 0,mul_assoc];rfl
theorem zn(b:List K):∀(x y:nw),o7 b (I8 x y)=o7 b x*o7 b y
 | [],y=>by grind[I8,o7,one_mul]
 | a::x,y=>by rw[I8,zm,zn b x y,<-mul_assoc];rfl
theorem qX(a:List K)(c:Int)(m:nw):∀p,l5 a (rO c m p)=ism (o7 a m) c+l5 a p
 | []=>by
  rw[rO];split
  .grind[mc,zero_add]
  .rfl
 | (d,n)::r=>by
  rw[rO];split
  .split
   .grind[mc,zero_add]
   .rfl
  next h=>
   have:=Cz _ _ h;subst this;rw[show l5 a ((d,m)::r)=ism (o7 a m) d+l5 a r from rfl,<-add_assoc,<-xe];split
   .grind[mc,zero_add]
   .rfl
  .rw[show l5 a ((d,n)::rO c m r)=ism (o7 a n) d+l5 a (rO c m r) from rfl,qX a c m r,<-add_assoc,add_comm<|ism (o7 a n) d,add_assoc];rfl
theorem uP(a:List K):∀p q,l5 a (Ew p q)=l5 a p+l5 a q
 | [],q=>by grind[Ew,l5,zero_add]
 | (c,m)::p,q=>by rw[Ew,qX,uP a p q,<-add_assoc];rfl
theorem qZ(a:List K)(c:Int)(m:nw):∀p,l5 a (wZ c m p)=ism (o7 a m) c*l5 a p
 | []=>by grind[wZ,l5,mul_zero]
 | (d,n)::r=>by rw[wZ,qX,qZ a c m r,zn,xf,<-mul_add];rfl
theorem AD(a:List K):∀p q,l5 a (Ir p q)=l5 a p*l5 a q
 | [],q=>by grind[Ir,l5,zero_mul]
 | (c,m)::p,q=>by rw[Ir,uP,qZ,AD a p q,<-add_mul];rfl
theorem RE.norm_den(c:List K):∀e:RE,l5 c e.norm=e.den c
 | .v n=>by
  show ism (c.getD n 0*1) 1+0=c.getD n 0;rw[add_zero,xg,mul_one]
 | .zero=>rfl
 | .one=>by
  show ism (1:K) 1+0=1;rw[add_zero,xg]
 | .add a b=>by rw[RE.norm,uP,RE.norm_den c a,RE.norm_den c b];rfl
 | .mul a b=>by rw[RE.norm,AD,RE.norm_den c a,RE.norm_den c b];rfl
 | .neg a=>by
  rw[RE.norm,qZ,RE.norm_den c a];show ism (1:K) (-1)*_=- _;rw[Cn,xg,neg_mul,one_mul]
def w5:Pol->Pol->Bool
 | [],[]=>true
 | (c,m)::p,(d,n)::q=>c==d&&m==n&&w5 p q
 | _,_=>false
theorem AE:∀p q,w5 p q=true->p=q
 | [],[],_=>rfl
 | [],_::_,h=>by grind[w5]
 | _::_,[],h=>by grind[w5]
 | (c,m)::p,(d,n)::q,h=>by
  simp[w5,ac₀,beq_iff_eq]at h;rw[h.1.1,h.1.2,AE p q h.2]
def cD(c:List K)(a b:RE)(h:w5 a.norm b.norm=true):a.den c=b.den c:=by rw[<-RE.norm_den,<-RE.norm_den,AE _ _ h]
end
section
variable {K:Type}[Fd K]
def sm:Nat->(Nat->K)->K
 | 0,_=>0
 | n+1,f=>sm n f+f n
theorem cM(n:Nat)(f:Nat->K):sm (n+1) f=sm n f+f n:=rfl
theorem Vf(f:Nat->K):sm 0 f=0:=rfl
theorem J1(f:Nat->K):sm 1 f=f 0:=zero_add _
theorem bW{f g:Nat->K}:∀{n:Nat},(∀i,i<n->f i=g i)->sm n f=sm n g
 | 0,_=>rfl
 | n+1,h=>by rw[cM,cM,bW λi a=>h i byO,h n byO]
theorem fK{f:Nat->K}:∀{n:Nat},(∀i,i<n->f i=0)->sm n f=0
 | 0,_=>rfl
 | n+1,h=>by rw[cM,fK λi a=>h i byO,h n byO,add_zero]
theorem qe(f g:Nat->K):∀n,sm n (λi=>f i+g i)=sm n f+sm n g
 | 0=>(add_zero 0).symm
 | n+1=>by
  rw[cM,cM,cM,qe f g n];exact(show(((sm n f)+(sm n g))+((f n)+(g n)))=(((sm n f)+(f n))+((sm n g)+(g n))) from cD [(sm n f),(sm n g),(f n),(g n)] (.add (.add (.v 0)<|.v 1)<|.add (.v 2)<|.v 3) (.add (.add (.v 0)<|.v 2)<|.add (.v 1)<|.v 3) rfl)
theorem lk(a:K)(f:Nat->K):∀n,a*sm n f=sm n λi=>a*f i
 | 0=>mul_zero a
 | n+1=>by rw[cM,cM,mul_add,lk a f n]
theorem p4(a:K)(f:Nat->K)(n:Nat):sm n f*a=sm n λi=>f i*a:=by grind[mul_comm,lk]
theorem Bp(f:Nat->K):∀n,-sm n f=sm n λi=>- f i
 | 0=>neg_zero
 | n+1=>by rw[cM,cM,neg_add,Bp f n]
theorem nE(f:Nat->K):∀n,sm (n+1) f=f 0+sm n λi=>f<|i+1
 | 0=>by grind[cM,Vf,zero_add,add_zero]
 | n+1=>by rw[cM,nE f n,cM,add_assoc]
theorem Bq(f:Nat->K):∀n,sm n f=sm n λi=>f<|n-1-i
 | 0=>rfl
 | n+1=>by
  rw[nE λi=>f<|n+1-1-i,cM,Bq f n,add_comm]
  grind
theorem um(f:Nat->K)(m:Nat):∀n,sm (m+n) f=sm m f+sm n λi=>f<|m+i
 | 0=>(add_zero _).symm
 | n+1=>by rw[<-Nat.add_assoc,cM,um f m n,cM,add_assoc]
theorem lB{f:Nat->K}{k:Nat}:∀{n:Nat},k<n->(∀i,i<n->i≠k->f i=0)->sm n f=f k
 | 0,h,_=>by omega
 | n+1,h,a=>by
  rw[cM];by_cases e:k=n
  .subst e
   rw[fK λi b=>a i byO byO,zero_add]
  .rw[lB byO λi b=>a i byO,a n byO λh=>e h.symm,add_zero]
theorem kY{f:Nat->K}{m n:Nat}(h:m<=n)(a:∀i,m<=i->i<n->f i=0):sm n f=sm m f:=by obtain⟨k,rfl⟩:∃k,n=m+k:=⟨n-m,byO⟩;rw[um,fK (n:=k) λi b=>a _ byO byO,add_zero]
theorem Br(f:Nat->Nat->K):∀n,sm (n+1) (λk=>sm (k+1) λi=>f i<|k-i)=sm (n+1) λi=>sm (n-i+1) λj=>f i j
 | 0=>rfl
 | n+1=>by
  rw[cM,Br f n,cM (n+1) λi=>sm (n+1-i+1) λj=>f i j,Nat.sub_self,J1];have e:sm (n+1) (λi=>sm (n+1-i+1) λj=>f i j)=sm (n+1) (λi=>sm (n-i+1) λj=>f i j)+sm (n+1) λi=>f i<|n+1-i:=by
   rw[<-qe];refine bW λi a=>?_;rw[show n+1-i+1=(n-i+1)+1 by omega,cM,show n-i+1=n+1-i by omega]
  rw[e,cM (n+1) λi=>f i<|n+1-i,Nat.sub_self,add_assoc]
abbrev Ser(K:Type):=Nat->K
def cv(p q:Ser K):Ser K:=λn=>sm (n+1) λi=>p i*q (n-i)
theorem dr(p q:Ser K):cv p q=cv q p:=by
 funext n;unfold cv;rw[Bq]
 grind[bW,mul_comm]
theorem dq(p q r:Ser K):cv (cv p q) r=cv p (cv q r):=by
 funext n;unfold cv;have h:=Br (λi j=>p i*q j*r (n-i-j)) n;have a:sm (n+1) (λk=>sm (k+1) (λi=>p i*q (k-i))*r (n-k))=sm (n+1) λk=>sm (k+1) λi=>p i*q (k-i)*r (n-i-(k-i)):=by
  refine bW λk d=>?_;rw[p4];refine bW λi b=>?_;rw[show n-i-(k-i)=n-k by omega]
 rw[a,h];refine bW λi b=>?_;rw[lk];refine bW λj c=>?_;rw[mul_assoc]
theorem yu(p q r:Ser K)(n:Nat):cv (λi=>p i+q i) r n=cv p r n+cv q r n:=by simp_all[cv,qe,add_mul]
theorem tG(p q r:Ser K)(n:Nat):cv r (λi=>p i+q i) n=cv r p n+cv r q n:=by simp_all[cv,qe,mul_add]
theorem vY(a:K)(p q:Ser K)(n:Nat):cv (λi=>a*p i) q n=a*cv p q n:=by unfold cv;rw[lk];exact bW λi _=>mul_assoc _ _ _
theorem Gw(p q:Ser K)(n:Nat):cv (λi=>- p i) q n=- cv p q n:=by unfold cv;rw[Bp];exact bW λi _=>neg_mul _ _
theorem mN{p a q b:Ser K}{n:Nat}(h:∀i,i<=n->p i=a i)(k:∀i,i<=n->q i=b i):cv p q n=cv a b n:=by unfold cv;refine bW λi c=>?_;rw[h i byO,k (n-i) byO]
theorem ry(p q:Ser K):cv p q 0=p 0*q 0:=J1 _
def sh(m:Nat)(p:Ser K):Ser K:=λn=>if m<=n then p (n-m) else 0
theorem nD{m n:Nat}(p:Ser K)(h:n<m):sh m p n=0:=by unfold sh;rw[if_neg byO]
theorem lA{m n:Nat}(p:Ser K)(h:m<=n):sh m p n=p (n-m):=by grind[sh]
theorem Np(m:Nat)(p q:Ser K):cv (sh m p) q=sh m (cv p q):=by
 funext n;by_cases h:m<=n
 .rw[lA _ h]
  unfold cv;obtain⟨k,rfl⟩:∃k,n=m+k:=⟨n-m,byO⟩;rw[show m+k+1=m+(k+1) by omega,um,fK (n:=m) λi a=>by rw[nD _ a,zero_mul],zero_add,show m+k-m=k by omega];refine bW λi a=>?_;rw[lA _ byO,show m+i-m=i by omega,show m+k-(m+i)=k-i by omega]
 .rw[nD _ byO]
  exact fK λi a=>by rw[nD _ byO,zero_mul]
def s1:Ser K:=λn=>if n=0 then 1 else 0
theorem ji(p:Ser K):cv s1 p=p:=by funext n;unfold cv;rw[lB (k:=0) byO λi _ h=>by unfold s1;rw[if_neg h,zero_mul]];unfold s1;rw[if_pos rfl,one_mul,Nat.sub_zero]
def dg(p:Ser K)(d:Nat):Prop:=∀i,d<i->p i=0
def KQ{p:Ser K}{d e:Nat}(h:dg p d)(a:d<=e):dg p e:=λi b=>h i byO
theorem HK{p q:Ser K}{a b:Nat}(c:dg p a)(d:dg q b):dg (cv p q)<|a+b:=by
 intro n f;refine fK λi e=>?_;by_cases h:a<i
 .rw[c i h,zero_mul]
 .rw[d (n-i) byO,mul_zero]
def pv(p:Ser K)(d:Nat)(x:K):K:=sm (d+1) λi=>p i*pw x i
theorem Bc{p:Ser K}{d e:Nat}(h:dg p d)(c:d<=e)(x:K):pv p e x=pv p d x:=
 kY byO λi a b=>by rw[h i byO,zero_mul]
def pT{p q:Ser K}{a b:Nat}(g:dg p a)(h:dg q b)(x:K):pv (cv p q) (a+b) x=pv p a x*pv q b x:=by
 unfold pv cv;have c:sm (a+b+1) (λn=>sm (n+1) (λi=>p i*q (n-i))*pw x n)=sm (a+b+1) λn=>sm (n+1) λi=>p i*pw x i*(q (n-i)*pw x (n-i)):=by
  refine bW λn l=>?_;rw[p4];refine bW λi f=>?_;obtain⟨k,rfl⟩:∃k,n=i+k:=⟨n-i,byO⟩;rw[show i+k-i=k by omega,iB];exact(show(((p i)*(q k))*((pw x i)*(pw x k)))=(((p i)*(pw x i))*((q k)*(pw x k))) from cD [(p i),(q k),(pw x i),(pw x k)] (.mul (.mul (.v 0)<|.v 1)<|.mul (.v 2)<|.v 3) (.mul (.mul (.v 0)<|.v 2)<|.mul (.v 1)<|.v 3) rfl)
 rw[c,Br λi j=>p i*pw x i*(q j*pw x j),p4,kY (m:=a+1) byO (λi d e=>by
  refine fK λj _=>?_;rw[g i byO,zero_mul,zero_mul])]
 refine bW λi f=>?_;rw[lk,kY (m:=b+1) byO λj d e=>by rw[h j byO,zero_mul,mul_zero]]
def lin(X:K):Ser K:=λn=>if n=0 then 1 else if n=1 then-X else 0
def mQ(X:K):dg (lin X) 1:=by intro i a;unfold lin;rw[if_neg byO,if_neg byO]
theorem uX(X x:K):pv (lin X) 1 x=1-X*x:=by unfold pv lin;rw[cM,J1,if_pos rfl,if_neg byO,if_pos rfl,ic,uY,mul_one,neg_mul];rfl
theorem oT(X:K)(p:Ser K)(n:Nat):cv (lin X) p (n+1)=p (n+1)-X*p n:=by unfold cv;rw[nE,nE,fK (n:=n) λi _=>by unfold lin;rw[if_neg byO,if_neg byO,zero_mul]];unfold lin;rw[if_pos rfl,if_neg byO,if_pos rfl,one_mul,add_zero,neg_mul];rfl
theorem pD(X:K)(p:Ser K):cv (lin X) p 0=p 0:=by grind[ry,lin,one_mul]
def dl(X:K)(p:Ser K):Ser K:=λn=>sm (n+1) λi=>p i*pw X (n-i)
theorem KS(X:K)(p:Ser K):dl X p 0=p 0:=by unfold dl;rw[J1,ic,mul_one]
theorem KR(X:K)(p:Ser K)(n:Nat):dl X p (n+1)=X*dl X p n+p (n+1):=by unfold dl;rw[cM,Nat.sub_self,ic,mul_one,lk];congr 1;refine bW λi a=>?_;rw[show n+1-i=(n-i)+1 by omega,fJ];exact(show((p i)*((pw X<|n-i)*X))=(X*((p i)*(pw X<|n-i))) from cD [(p i),(pw X<|n-i),X] (.mul (.v 0)<|.mul (.v 1)<|.v 2) (.mul (.v 2)<|.mul (.v 0)<|.v 1) rfl)
def SI(X:K)(p:Ser K):cv (lin X) (dl X p)=p:=by
 funext n;cases n with
 | zero=>rw[pD,KS]
 | succ n=>rw[oT,KR];exact(show(((X*dl X p n)+(p<|n+1))-(X*dl X p n))=(p<|n+1) from cD [(X*dl X p n),(p<|n+1)] (.add (.add (.v 0)<|.v 1)<|.neg<|.v 0) (.v 1) rfl)
def oM{x X:K}(h:X*x=1)(n:Nat):pw X n*pw x n=1:=by rw[<-qS,h,jF]
def SM{X x:K}(h:X*x=1){p:Ser K}{d:Nat}(c:dg p<|d+1)(f:pv p (d+1) x=0):dg (dl X p) d:=by
 have a:∀n,d+1<=n->dl X p n=pw X n*pv p (d+1) x:=by
  intro n l;unfold dl pv;rw[kY (m:=d+1+1) byO λi g j=>by rw[c i byO,zero_mul],lk];refine bW λi b=>?_;obtain⟨k,rfl⟩:∃k,n=k+i:=⟨n-i,byO⟩;rw[show k+i-i=k by omega,iB];have:=oM h i;have e:=(show(((pw X k)*(pw X i))*((p i)*(pw x i)))=(((p i)*(pw X k))*((pw X i)*(pw x i))) from cD [(pw X k),(pw X i),(p i),(pw x i)] (.mul (.mul (.v 0)<|.v 1)<|.mul (.v 2)<|.v 3) (.mul (.mul (.v 2)<|.v 0)<|.mul (.v 1)<|.v 3) rfl);rw[e,this,mul_one]
 intro i b;rw[a i byO,f,mul_zero]
def aY:List K->Ser K
 | []=>s1
 | X::l=>cv (lin X)<|aY l
def HL:dg (s1:Ser K) 0:=by intro i a;unfold s1;rw[if_neg byO]
theorem ec:∀l:List K,dg (aY l) l.length
 | []=>HL
 | X::l=>by
  have:=HK (mQ X)<|ec l;rw[show 1+l.length=(X::l).length by simp;omega]at this;exact this
theorem km:∀l:List K,aY l 0=1
 | []=>rfl
 | X::l=>by rw[aY,pD,km l]
theorem OD(x:K):pv s1 0 x=1:=by unfold pv;rw[J1,ic,mul_one];rfl
theorem pU(X:K)(l:List K)(x:K):pv (aY (X::l)) (l.length+1) x=(1-X*x)*pv (aY l) l.length x:=by have:=pT (mQ X) (ec l) x;rw[uX,show 1+l.length=l.length+1 by omega]at this;exact this
theorem mu:∀{l:List K} {X x:K},X ∈ l->X*x=1->pv (aY l) l.length x=0
 | [],_,_,h,_=>by simp at h
 | Y::l,X,x,h,e=>by
  rw[ak₀,pU];rcases List.mem_cons.1 h with rfl|h
  .rw[e,sub_self,zero_mul]
  .rw[mu h e,mul_zero]
def uK{X Y x:K}(e:X*x=1)(h:X≠Y):1-Y*x≠0:=by grind[mul_zero,jq,mul_left_cancel,mul_comm,sub_eq_zero]
def ju:∀{l:List K} {X x:K},X ∉ l->X*x=1->pv (aY l) l.length x≠0
 | [],_,x,_,_=>by rw[aY,an₀,OD];exact jq
 | Y::l,X,x,h,e=>by
  rw[ak₀,pU];refine mul_ne_zero (uK e λa=>h (by rw[a];simp))<|ju (λb=>h (by simp[b])) e
def ng:∀(l:List K) (xs:List K) (p:Ser K) (d:Nat),l.length=xs.length->l.Nodup->(∀i (h:i<l.length) (s:i<xs.length),l[i]*xs[i]=1)->dg p (l.length+d)->(∀x ∈ xs,pv p (l.length+d) x=0)->∃q,dg q d/\p=cv (aY l) q
 | [],xs,p,d,_,_,_,g,_=>⟨p,XP,by rw[aY,ji]⟩
 | X::l,[],p,d,m,_,_,_,_=>by simp at m
 | X::l,x::xs,p,d,m,v,r,g,o=>by
  have e:X*x=1:=r 0 Wc Wc;have a:l.length=xs.length:=by simpa using m
  have B:(X::l).length+d=(l.length+d)+1:=Wr
  rw[B]at g o;have t:=SM e g<|o x Wc;have u:p=cv (lin X) (dl X p):=(SI X p).symm;have b:X ∉ l:=(List.nodup_cons.1 v).1;have⟨q,D,n⟩:=ng l xs (dl X p) d a (List.nodup_cons.1 v).2 (λi h s=>r (i+1) Wy (by simpa using s)) t (by
   intro y z;have c:=o y (by simp[z]);rw[u]at c;have w:=pT (mQ X) t y;rw[show 1+(l.length+d)=l.length+d+1 by omega,c,uX]at w;obtain⟨i,C,rfl⟩:=List.getElem_of_mem z;have k:i<l.length:=byO;have f:=r (i+1) (by simpa using k) (by simpa using C);simp[List.getElem_cons_succ]at f;rcases mul_eq_zero w.symm with j|j
   .exact absurd j<|uK f λA=>b (by rw[<-A];exact List.getElem_mem _)
   .exact j)
  exact⟨q,D,by rw[aY,dq,<-n,<-u]⟩
end
section
variable {K:Type}[Fd K]
structure Gen (s C:Ser K)(L n:Nat):Prop where
 one:C 0=1
 deg:dg C L
 gen:∀k,L<=k->k<n->cv C s k=0
theorem Gen.less{s C:Ser K}{L m n:Nat}(h:Gen s C L n)(c:m<=n):Gen s C L m:=⟨h.one,h.deg,λk a b=>h.gen k a byO⟩
def QL{s C D:Ser K}{L M n:Nat}(b:Gen s C L n)(e:cv C s n≠0)(a:Gen s D M<|n+1):n+1<=L+M:=by
 apply Decidable.byContradiction;intro l;apply e;have c:cv D (cv C s) n=cv C s n:=by
  show sm (n+1) (λj=>D j*cv C s (n-j))=_;rw[lB (k:=0) byO (λj f g=>by
   by_cases h:M<j
   .rw[a.deg j h,zero_mul]
   .rw[b.gen (n-j) byO byO,mul_zero]),a.one,one_mul,Nat.sub_zero]
 have d:cv C (cv D s) n=0:=by
  refine fK λi m=>?_;by_cases h:L<i
  .rw[b.deg i h,zero_mul]
  .rw[a.gen (n-i) byO byO,mul_zero]
 rw[<-c,<-dq,dr D C,dq,d]
structure Reg (K:Type) where
 C:Ser K
 B:Ser K
 L:Nat
 m:Nat
 b:K
def Reg.init:Reg K:=⟨s1,s1,0,1,1⟩
def Reg.next(s:Ser K)(n:Nat)(r:Reg K):Reg K:=
 if cv r.C s n=0 then { r with m:=r.m+1 }
 else if 2*r.L<=n then⟨λi=>r.C i-cv r.C s n*inv r.b*sh r.m r.B i,r.C,n+1-r.L,1,cv r.C s n⟩
 else { r with C:=λi=>r.C i-cv r.C s n*inv r.b*sh r.m r.B i,m:=r.m+1 }
def Reg.run(s:Ser K):Nat->Reg K
 | 0=>Reg.init
 | n+1=>(Reg.run s n).next s n
structure RInv (s:Ser K)(n:Nat)(r:Reg K):Prop where
 gen:Gen s r.C r.L n
 le:r.L<=n
 min:∀D M,Gen s D M n->r.L<=M
 b:r.b≠0
 mp:0<r.m
 old:∃LB,dg r.B LB/\r.L+LB+r.m=n+1/\(∀t,LB<=t->t+r.m<n->cv r.B s t=0)/\(LB+r.m<=n->cv r.B s (n-r.m)=r.b)
def FG(s:Ser K):RInv s 0 (Reg.init:Reg K):=by refine⟨⟨rfl,HL,λk _ h=>byO⟩,Nat.le_refl _,λ_ _ _=>Nat.zero_le _,jq,Nat.zero_lt_one,0,HL,rfl,λt _ h=>byO,λh=>?_⟩;simp[Reg.init]at h
theorem KM{s C B:Ser K}{a:K}{m k:Nat}:cv (λi=>C i-a*sh m B i) s k=cv C s k-a*sh m (cv B s) k:=by have:(λi=>C i-a*sh m B i)=(λi=>C i+(λj=>- (a*sh m B j)) i):=rfl;rw[this,yu,Gw,vY,Np];rfl
def FI{s:Ser K}{n:Nat}{r:Reg K}(h:RInv s n r):RInv s (n+1)<|r.next s n:=by
 have⟨v,p,B,q,u⟩:=h.old;unfold Reg.next;split
 next o=>
  refine⟨⟨h.gen.one,h.gen.deg,λk a c=>?_⟩,by have:=h.le;simp only;omega,λD M d=>h.min D M<|d.less byO,h.b,Nat.succ_pos _,v,p,Xr,λt a c=>q t a X8,λa=>?_⟩
  .by_cases e:k=n
   .rw[e];exact o
   .exact h.gen.gen k a byO
  .simp only at a ⊢
   rw[<-u byO,show n+1-(r.m+1)=n-r.m by omega]
 next o=>
  have l:(λi=>r.C i-cv r.C s n*inv r.b*sh r.m r.B i) 0=1:=by
   have x:=h.mp;show r.C 0-_*sh r.m r.B 0=1;rw[nD _ x,mul_zero,h.gen.one];exact(show(1-0)=1 from cD [((1:K))] (.add .one<|.neg .zero) .one rfl)
  have f:∀b,r.L<=b->n+1-r.L<=b->dg (λi=>r.C i-cv r.C s n*inv r.b*sh r.m r.B i) b:=by
   intro b a c i A;show r.C i-_*sh r.m r.B i=0;rw[h.gen.deg i byO,lA _ byO,p (i-r.m) byO,mul_zero];exact(show(0-0)=0 from cD [((1:K))] (.add .zero<|.neg .zero) .zero rfl)
  have g:∀b,r.L<=b->n+1-r.L<=b->∀k,b<=k->k<n+1->cv (λi=>r.C i-cv r.C s n*inv r.b*sh r.m r.B i) s k=0:=by
   intro b a c k y z;rw[KM,lA _ byO];by_cases e:k=n
   .subst e
    rw[u byO,mul_assoc,inv_mul h.b,mul_one,sub_self]
   .rw[h.gen.gen k byO byO,q (k-r.m) byO byO,mul_zero]
    exact(show(0-0)=0 from cD [((1:K))] (.add .zero<|.neg .zero) .zero rfl)
  have j:∀D M,Gen s D M (n+1)->r.L<=M/\n+1-r.L<=M:=λD M d=>⟨h.min D M<|d.less byO,by have:=QL h.gen o d;omega⟩;by_cases w:2*r.L<=n
  .rw[if_pos w]
   refine⟨⟨l,f _ Xr<|Nat.le_refl _,g _ Xr<|Nat.le_refl _⟩,Xr,λD M d=>(j D M d).2,o,Nat.zero_lt_one,r.L,h.gen.deg,Xr,λt a c=>h.gen.gen t a X8,λ_=>?_⟩;simp only;rw[show n+1-1=n by omega]
  .rw[if_neg w]
   have m:n+1-r.L<=r.L:=byO;refine⟨⟨l,f _ (Nat.le_refl _) m,g _ (Nat.le_refl _) m⟩,by have:=h.le;simp only;omega,λD M d=>(j D M d).1,h.b,Nat.succ_pos _,v,p,Xr,λt a c=>q t a X8,λa=>?_⟩;simp only at a ⊢;rw[<-u byO,show n+1-(r.m+1)=n-r.m by omega]
def iy(s:Ser K):∀n,RInv s n<|Reg.run s n
 | 0=>FG s
 | n+1=>FI<|iy s n
def wh{s t:Ser K}:∀{n:Nat},(∀k,k<n->s k=t k)->Reg.run s n=Reg.run t n
 | 0,_=>rfl
 | n+1,h=>by
  have e:=wh (λk c=>h k byO:∀k,k<n->s k=t k);have a:∀C:Ser K,cv C s n=cv C t n:=λC=>mN (λ_ _=>rfl) λi b=>h i byO;simp[Reg.run,e,Reg.next,a]
def geo(X:K):Ser K:=λn=>pw X n
theorem PE(X:K):cv (lin X) (geo X)=s1:=by
 funext n;cases n with
 | zero=>rw[pD];rfl
 | succ n=>
  rw[oT];show pw X n*X-X*pw X n=0;rw[mul_comm X,sub_self]
def gs:List (K×K)->Ser K
 | []=>λ_=>0
 | (y,X)::l=>λn=>y*geo X n+gs l n
def xs:List (K×K)->List K:=List.map Prod.snd
def om:List (K×K)->Ser K
 | []=>λ_=>0
 | (y,X)::l=>λn=>y*aY (xs l) n+cv (lin X) (om l) n
theorem xL(p:Ser K):cv p (λ_=>0)=λ_=>0:=by funext n;exact fK λi _=>mul_zero _
theorem vZ(a:K)(p q:Ser K)(n:Nat):cv p (λi=>a*q i) n=a*cv p q n:=by rw[dr,vY,dr]
theorem CW:∀l:List<|K×K,cv (aY<|xs l) (gs l)=om l
 | []=>xL _
 | (y,X)::l=>by
  funext n;show cv (cv (lin X)<|aY<|xs l) (λn=>y*geo X n+gs l n) n=_;rw[tG,vZ,dr<|lin X,dq,PE,dr _ s1,ji,dr<|aY<|xs l,dq,CW l];rfl
theorem gW(l:List<|K×K):(xs l).length=l.length:=by simp[xs]
theorem rD:∀l:List<|K×K,∀i,l.length<=i->om l i=0
 | [],_,_=>rfl
 | (y,X)::l,i,h=>by
  have h:l.length+1<=i:=Wy
  have a:=ec<|xs l;rw[gW]at a;show y*aY (xs l) i+cv (lin X) (om l) i=0;rw[a i byO,mul_zero,zero_add];cases i with
  | zero=>omega
  | succ i=>rw[oT,rD l (i+1) byO,rD l i byO,mul_zero];exact(show(0-0)=0 from cD [((1:K))] (.add .zero<|.neg .zero) .zero rfl)
theorem Bb(p q:Ser K)(d:Nat)(x:K):pv (λi=>p i+q i) d x=pv p d x+pv q d x:=by unfold pv;rw[<-qe];exact bW λi _=>add_mul _ _ _
theorem yM(a:K)(p:Ser K)(d:Nat)(x:K):pv (λi=>a*p i) d x=a*pv p d x:=by unfold pv;rw[lk];exact bW λi _=>mul_assoc _ _ _
theorem OC:∀(l:List<|K×K) (j:Nat) (h:j<l.length) (x:K),(l[j]).2*x=1->pv (om l) l.length x=(l[j]).1*pv (aY<|(xs l).eraseIdx j) (l.length-1) x
 | [],j,h,_,_=>by simp at h
 | (y,X)::l,0,h,x,e=>by
  have e:X*x=1:=e;show pv (λn=>y*aY (xs l) n+cv (lin X) (om l) n) (l.length+1) x=y*pv (aY<|xs l) (l.length+1-1) x;have c:dg (om l) l.length:=λi m=>rD l i byO;have b:=pT (mQ X) c x;have a:=ec<|xs l;rw[gW]at a;rw[show 1+l.length=l.length+1 by omega,uX,e,sub_self,zero_mul]at b;rw[Bb,yM,b,add_zero,Nat.add_sub_cancel,Bc a byO]
 | (y,X)::l,j+1,h,x,e=>by
  have g:j<l.length:=Wy
  have e:(l[j]).2*x=1:=e;show pv (λn=>y*aY (xs l) n+cv (lin X) (om l) n) (l.length+1) x=(l[j]).1*pv (cv (lin X)<|aY<|(xs l).eraseIdx j) (l.length+1-1) x;have c:dg (om l) l.length:=λi m=>rD l i byO;have b:=pT (mQ X) c x;have a:=ec<|xs l;have d:=ec<|(xs l).eraseIdx j;have k:((xs l).eraseIdx j).length=l.length-1:=by rw[List.length_eraseIdx_of_lt (by rw[gW];exact g),gW]
  rw[k]at d;rw[gW]at a;have f:=pT (mQ X) d x;have o:pv (aY<|xs l) l.length x=0:=by
   have:=mu (l:=xs l) (X:=(l[j]).2) (x:=x) (List.mem_map.2 ⟨l[j],List.getElem_mem _,rfl⟩) e;rwa [gW]at this
  rw[show 1+(l.length-1)=l.length by omega]at f;rw[Bb,yM,Bc a byO,o,mul_zero,zero_add,show l.length+1=1+l.length by omega,b,OC l j g x e,show 1+l.length-1=l.length by omega,f];exact(show((pv (lin X) 1 x)*(((l[j]).1)*(pv (aY<|(xs l).eraseIdx j) (l.length-1) x)))=(((l[j]).1)*((pv (lin X) 1 x)*(pv (aY<|(xs l).eraseIdx j) (l.length-1) x))) from cD [(pv (lin X) 1 x),((l[j]).1),(pv (aY<|(xs l).eraseIdx j) (l.length-1) x)] (.mul (.v 0)<|.mul (.v 1)<|.v 2) (.mul (.v 1)<|.mul (.v 0)<|.v 2) rfl)
def uB:∀l:List K,(∀X ∈ l,X≠0)->aY l l.length≠0
 | [],_=>jq
 | X::l,h=>by
  show cv (lin X) (aY l) (l.length+1)≠0;rw[oT,ec l _ byO];have a:=uB l (λY d=>h Y Yb);have b:=mul_ne_zero (h X Wc) a;intro c;apply neg_ne_zero b;rw[<-c];exact(show(-(X*aY l l.length))=(0-(X*aY l l.length)) from cD [(X*aY l l.length)] (.neg<|.v 0) (.add .zero<|.neg<|.v 0) rfl)
def xx{l:List K}(b:l.Nodup){j:Nat}(c:j<l.length):l[j] ∉ l.eraseIdx j:=by
 intro d;have⟨i,e,a⟩:=List.getElem_of_mem d;rw[List.getElem_eraseIdx]at a;have f:=List.length_eraseIdx_of_lt c;split at a
 .have:=(List.getElem_inj b).1 a;omega
 .have:=(List.getElem_inj b).1 a;omega
def Dv{s C:Ser K}{L N:Nat}(f:Gen s C L N)(w:∀D M,Gen s D M N->L<=M)(l:List<|K×K)(hy:∀p ∈ l,p.1≠0)(B:∀p ∈ l,p.2≠0)(Q:(xs l).Nodup)(Y:∀k,k<N->s k=gs l k)(ht:2*l.length<=N):C=aY (xs l)/\L=l.length:=by
 have r:∀(D:Ser K) k,k<N->cv D s k=cv D (gs l) k:=λD k hk=>mN (λ_ _=>rfl) λi u=>Y i byO;have a:=ec<|xs l;rw[gW]at a;have hL:L<=l.length:=w (aY<|xs l) l.length ⟨km _,a,λk m b=>by rw[r _ k b,CW,rD l k m]⟩;have S:∀k,L<=k->k<N->cv C (gs l) k=0:=λk m b=>by rw[<-r _ k b];exact f.gen k m b
 have T:cv C (om l)=cv (aY<|xs l) λk=>if k<L then cv C (gs l) k else 0:=by
  funext n;by_cases F:n<N
  .rw[<-CW,<-dq,dr C,dq]
   refine mN (λ_ _=>rfl) λi u=>?_;split
   .rfl
   .exact S i byO byO
  .rw[show cv C (om l) n=0 from fK λi u=>by
    by_cases h:L<i
    .rw[f.deg i h,zero_mul]
    .rw[rD l (n-i) byO,mul_zero]]
   refine(fK λi u=>?_).symm;by_cases h:l.length<i
   .rw[a i h,zero_mul]
   .by_cases b:n-i<L
    .have:n-i+i=n:=byO
     exact absurd F byO
    .show aY (xs l) i*(if n-i<L then cv C (gs l) (n-i) else 0)=0
     rw[if_neg b,mul_zero]
 have g:∀j (h:j<l.length),pv C L (inv (l[j]).2)=0:=by
  intro j h;have E:=B l[j]<|List.getElem_mem _;have e:(l[j]).2*inv (l[j]).2=1:=iY E;have m:dg (om l) l.length:=λi u=>rD l i byO;have b:=pT f.deg m<|inv (l[j]).2;have R:dg (λk=>if k<L then cv C (gs l) k else 0) L:=λi u=>if_neg byO;have J:=pT a R<|inv (l[j]).2;have hz:pv (aY<|xs l) l.length (inv (l[j]).2)=0:=by
   have:=mu (l:=xs l) (X:=(l[j]).2) (List.mem_map.2 ⟨l[j],List.getElem_mem _,rfl⟩) e;rwa [gW]at this
  rw[hz,zero_mul,<-T,show l.length+L=L+l.length by omega,b]at J;rcases mul_eq_zero J with z|z
  .exact z
  .rw[OC l j h _ e]at z
   rcases mul_eq_zero z with A|A
   .exact absurd A<|hy _<|List.getElem_mem _
   .exfalso
    have v:j<(xs l).length:=by rw[gW];exact h
    have G:=xx Q v;have O:=ju (X:=(l[j]).2) (l:=(xs l).eraseIdx j) (by simpa[xs]using G) e;rw[List.length_eraseIdx_of_lt v,gW]at O;exact O A
 have t:dg C<|(xs l).length+0:=KQ f.deg (by rw[gW];omega);have⟨q,W,o⟩:=ng (xs l) ((xs l).map inv) C 0 Wc Q (λi h h'=>by
   rw[List.getElem_map];exact iY (by
    have⟨p,y,U⟩:=List.mem_map.1<|List.getElem_mem h;rw[<-U];exact B p y)) t (λx Z=>by
   obtain⟨X,d,rfl⟩:=List.mem_map.1 Z;obtain⟨p,y,rfl⟩:=List.mem_map.1 d;obtain⟨j,V,rfl⟩:=List.getElem_of_mem y;rw[Bc f.deg (by rw[gW];omega)];exact g j V)
 have H:q 0=1:=by
  have:=f.one;rwa [o,ry,km,one_mul]at this
 have I:q=s1:=by
  funext i;unfold s1;split
  next h=>rw[h];exact H
  .exact W i byO
 have P:C=aY (xs l):=by rw[o,I,dr,ji]
 refine⟨P,?_⟩;have c:=uB (xs l) (λX d=>by
  obtain⟨p,y,rfl⟩:=List.mem_map.1 d;exact B p y)
 rw[gW,<-P]at c;by_cases h:L<l.length
 .exact absurd (f.deg _ h) c
 .omega
end
def nY:∀(q:Nat) (l:XN),l.Nodup->(∀x ∈ l,x<q)->l.length<=q
 | 0,l,_,h=>by
  cases l with
  | nil=>simp
  | cons a l=>exact absurd (h a Wc) byO
 | q+1,l,d,h=>by
  by_cases c:q ∈ l
  .have i:=List.length_erase_of_mem c
   have j:=nY q (l.erase q) (d.erase q) (λx b=>by
    have f:=h x<|List.mem_of_mem_erase b;have g:x≠q:=(d.mem_erase_iff.1 b).1;omega)
   have f:=List.length_pos_of_mem c;omega
  .have:=nY q l d (λx b=>by
    have f:=h x b;have g:x≠q:=λe=>c<|e▸b;omega)
   omega
def jD{a:Type}{f:Nat->a}{n:Nat}(h:∀i j,i<n->j<n->f i=f j->i=j):((List.range n).map f).Nodup:=by grind[List.Pairwise.imp_of_mem,List.nodup_range]
def rU{q:Nat}{f:Nat->Nat}(c:∀i,i<q->f i<q)(d:∀i j,i<q->j<q->f i=f j->i=j){y:Nat}(l:y<q):∃x,x<q/\f x=y:=by
 apply Decidable.byContradiction;intro g;have a:y ∉ (List.range q).map f:=by
  intro k;have⟨x,b,e⟩:=List.mem_map.1 k;exact g ⟨x,X6,e⟩
 have:=nY q (y::(List.range q).map f) (List.nodup_cons.2 ⟨a,jD d⟩) (by
  intro x b;rcases List.mem_cons.1 b with rfl|b
  .exact l
  .obtain⟨i,h,rfl⟩:=List.mem_map.1 b
   exact c i Wy)
 simp at this;omega
def least{P:Nat->Prop}:∀n,P n->∃m,m<=n/\P m/\∀k,k<m->¬ P k:=by
 intro n
 induction n using Nat.strongRecOn with
 | _ n j=>
  intro h;by_cases d:∃k,k<n/\P k
  .have⟨k,e,f⟩:=d
   have⟨m,a,b,c⟩:=j k e f;exact⟨m,byO,b,c⟩
  .exact⟨n,Nat.le_refl _,h,λk g i=>d ⟨k,g,i⟩⟩
def Hr{P:Nat->Prop}(b:Nat)(a:∀n,P n->n<=b){n:Nat}(h:P n):∃m,P m/\∀k,P k->k<=m:=by have⟨m,g,d,e⟩:=least (P:=λk=>k<=b/\P (b-k)) (b-n) ⟨byO,by rw[show b-(b-n)=n by have:=a n h;omega];exact h⟩;refine⟨b-m,d.2,λk c=>?_⟩;have f:=a k c;apply Decidable.byContradiction;intro i;exact e (b-k) byO ⟨byO,by rw[show b-(b-k)=k by omega];exact c⟩
def Pr(p:Nat):Prop:=2<=p/\∀d,2<=d->d<p->¬ d ∣ p
def FC{n:Nat}(h:2<=n):∃p,Pr p/\p ∣ n:=by have⟨p,i,⟨e,c⟩,f⟩:=least (P:=λk=>2<=k/\k ∣ n) n ⟨h,Nat.dvd_refl n⟩;exact⟨p,⟨e,λd g b a=>f d b ⟨g,Nat.dvd_trans a c⟩⟩,c⟩
def w7{p:Nat}(i:2<=p):∀n,0<n->∃f m,n=p^f*m/\¬ p ∣ m:=by
 intro n
 induction n using Nat.strongRecOn with
 | _ n g=>
  intro h;by_cases a:p ∣ n
  .obtain⟨k,rfl⟩:=a
   have b:0<k:=by
    rcases Nat.eq_zero_or_pos k with rfl|c
    .grind
    .exact c
   have⟨f,m,d,e⟩:=g k (by
    have:1*k<p*k:=Nat.mul_lt_mul_of_pos_right byO b;omega) b
   exact⟨f+1,m,by rw[d,Nat.pow_succ,bb₀ (p^f) p,Nat.mul_assoc],e⟩
  .exact⟨0,n,Wc,a⟩
def uV{p m:Nat}(a:Pr p)(h:¬ p ∣ m):Nat.gcd p m=1:=by
 have b:=Nat.gcd_dvd_left p m;have c:0<Nat.gcd p m:=Nat.gcd_pos_of_pos_left m (by have:=a.1;omega);have e:=Nat.le_of_dvd (by have:=a.1;omega) b;apply Decidable.byContradiction;intro f;by_cases d:Nat.gcd p m=p
 .apply h
  rw[<-d];exact Nat.gcd_dvd_right p m
 .exact a.2 _ byO byO b
def rC{p m:Nat}(h:Nat.gcd p m=1):∀e,Nat.gcd (p^e) m=1
 | 0=>by simp
 | e+1=>by
  rw[Nat.pow_succ];exact Nat.Coprime.mul_left (rC h e) h
def A0{k m:Nat}(r:0<k)(v:0<m)(h:¬ k ∣ m):∃p f e,Pr p/\m=p^f*e/\¬ p ∣ e/\p^(f+1) ∣ k:=by
 have t:=Nat.gcd_dvd_left k m;have l:0<Nat.gcd k m:=Nat.gcd_pos_of_pos_left m r;have⟨d,b⟩:=t;have i:2<=d:=by
  rcases Nat.lt_or_ge d 2 with a|a
  .exfalso
   have:d=0\/d=1:=byO;rcases this with rfl|rfl
   .simp at b;omega
   .apply h
    rw[Nat.mul_one]at b;rw[b];exact Nat.gcd_dvd_right k m
  .exact a
 have⟨p,c,n⟩:=FC i;have⟨f,e,q,a⟩:=w7 c.1 m v;have⟨j,w,g,s⟩:=w7 c.1 k r;refine⟨p,f,e,c,q,a,?_⟩;by_cases u:f+1<=j
 .rw[g]
  exact Nat.dvd_trans (Nat.pow_dvd_pow p u)<|Nat.dvd_mul_right _ _
 .exfalso
  have o:p^j ∣ Nat.gcd k m:=Nat.dvd_gcd (by rw[g];exact Nat.dvd_mul_right _ _) (by rw[q];exact Nat.dvd_trans (Nat.pow_dvd_pow p byO)<|Nat.dvd_mul_right _ _);have:p^j*p ∣ k:=by rw[b];exact Nat.mul_dvd_mul o n
  rw[g]at this;exact s<|Nat.dvd_of_mul_dvd_mul_left (Nat.pow_pos (by have:=c.1;omega)) this
section
variable {K:Type}[Fd K]
def Ord(a:K)(n:Nat):Prop:=0<n/\pw a n=1/\∀m,0<m->m<n->pw a m≠1
theorem yN{a:K}{n:Nat}(h:pw a n=1)(k:Nat):pw a (k%n)=pw a k:=by
 have e:k=n*(k/n)+k%n:=(Nat.div_add_mod k n).symm;have:pw a k=pw a (n*(k/n))*pw a (k%n):=by rw[<-iB,<-e]
 rw[this,eG,h,jF,one_mul]
def jP{a:K}{n k:Nat}(h:Ord a n)(e:pw a k=1):n ∣ k:=by have⟨b,c,d⟩:=h;rw[Nat.dvd_iff_mod_eq_zero];apply Decidable.byContradiction;intro f;exact d (k%n) byO (Nat.mod_lt k b) (by rw[yN c,e])
def Le{a:K}{n k:Nat}(h:Ord a n):pw a k=1↔n ∣ k:=by refine⟨jP h,?_⟩;rintro⟨j,rfl⟩;rw[eG,h.2.1,jF]
def Ik{a:K}{d n:Nat}(h:Ord a<|d*n):Ord (pw a d) n:=by
 have⟨f,i,j⟩:=h;have g:0<d:=by
  rcases Nat.eq_zero_or_pos d with rfl|b
  .grind
  .exact b
 have l:0<n:=by
  rcases Nat.eq_zero_or_pos n with rfl|b
  .grind
  .exact b
 refine⟨l,by rw[<-eG];exact i,λm k c e=>?_⟩;rw[<-eG]at e;exact j (d*m) (Nat.mul_pos g k) (Nat.mul_lt_mul_of_pos_left c g) e
def Lf{a b:K}{m n:Nat}(c:Ord a m)(d:Ord b n)(f:Nat.gcd m n=1):Ord (a*b)<|m*n:=by
 refine⟨Nat.mul_pos c.1 d.1,?_,λk l o e=>?_⟩
 .rw[qS,eG a m n,c.2.1,jF,one_mul,bb₀,eG,d.2.1,jF]
 .rw[qS]at e
  have i:pw b (k*m)=1:=by
   have:pw (pw a k*pw b k) m=1:=by rw[e,jF]
   rw[qS,<-eG,bb₀ k m,eG a m k,c.2.1,jF,one_mul,<-eG,bb₀ k m]at this;rw[bb₀];exact this
  have j:pw a (k*n)=1:=by
   have:pw (pw a k*pw b k) n=1:=by rw[e,jF]
   rw[qS,<-eG,<-eG,bb₀ k n,eG b n k,d.2.1,jF,mul_one,bb₀ n k]at this;exact this
  have g:n ∣ k:=Nat.Coprime.dvd_of_dvd_mul_right (show Nat.Coprime n m by rw[Nat.Coprime,Nat.gcd_comm];exact f)<|jP d i;have h:m ∣ k:=Nat.Coprime.dvd_of_dvd_mul_right (show Nat.Coprime m n from f)<|jP c j;have:=Nat.le_of_dvd l<|Nat.Coprime.mul_dvd_of_dvd_of_dvd f h g;omega
structure Num (K:Type)[Fd K] where
 q:Nat
 val:K->Nat
 lt:∀x,val x<q
 inj:∀x y,val x=val y->x=y
 sur:∀i,i<q->∃x,val x=i
 v0:val 0=0
variable (N:Num K)
theorem Num.elems:∃l:List K,l.Nodup/\l.length=N.q-1/\(∀x,x ∈ l↔x≠0):=by
 have a:∃f:Nat->K,∀i,i<N.q->N.val (f i)=i:=
  ⟨λi=>if h:i<N.q then(N.sur i h).choose else 0,λi h=>by simp[h,dif_pos];exact(N.sur i h).choose_spec⟩
 have⟨f,a⟩:=a;refine⟨(List.range<|N.q-1).map λi=>f<|i+1,jD ?_,Wc,λx=>?_⟩
 .intro i j d n e
  have c:=a (i+1) byO;have g:=a (j+1) byO;rw[e,g]at c;omega
 .constructor
  .intro m e
   have⟨i,d,b⟩:=List.mem_map.1 m;have k:i<N.q-1:=XL
   have c:=a (i+1) byO;have b:f (i+1)=x:=b;rw[b,e,N.v0]at c;omega
  .intro h
   have p:N.val x≠0:=λe=>h<|N.inj x 0 (by rw[e,N.v0]);have o:=N.lt x;refine List.mem_map.2 ⟨N.val x-1,Wr,?_⟩;show f (N.val x-1+1)=x;apply N.inj;rw[a _ byO];omega
theorem Num.ord(a:K)(t:a≠0):∃n,Ord a n/\n<=N.q-1:=by
 have f:∃n,0<n/\pw a n=1/\n<=N.q-1:=by
  apply Classical.byContradiction;intro A;have⟨l,_,H,v⟩:=N.elems;have b:∀i j,i<N.q->j<N.q->N.val (pw a i)=N.val (pw a j)->i=j:=by
   have d:∀i k,i+k<N.q->pw a i=pw a (i+k)->k=0:=by
    intro i k u e;rw[iB]at e;have w:pw a k=1:=by
     symm
     apply mul_left_cancel<|cN t i;rw[mul_one];exact e
    apply Decidable.byContradiction;intro B;exact A ⟨k,byO,w,byO⟩
   intro i j F G e;have e:=N.inj _ _ e;rcases Nat.le_total i j with h|h
   .have:=d i (j-i) byO (by rw[show i+(j-i)=j by omega];exact e);omega
   .have:=d j (i-j) byO (by rw[show j+(i-j)=i by omega];exact e.symm);omega
  have c:=nY N.q (0::(List.range N.q).map λi=>N.val<|pw a i) (List.nodup_cons.2 ⟨by
   intro C;have⟨i,_,e⟩:=List.mem_map.1 C;exact cN t i<|N.inj _ _ (by rw[N.v0];exact e),jD b⟩) (by
   intro x s;rcases List.mem_cons.1 s with rfl|s
   .exact Nat.lt_of_le_of_lt (Nat.zero_le _)<|N.lt 0
   .obtain⟨i,_,rfl⟩:=List.mem_map.1 s
    exact N.lt _)
  simp at c;omega
 have⟨n,y,z,E⟩:=f;have⟨m,D,⟨o,p⟩,r⟩:=least (P:=λk=>0<k/\pw a k=1) n ⟨y,z⟩;exact⟨m,⟨o,p,λk u g e=>r k g ⟨u,e⟩⟩,byO⟩
def ua{m:Nat}(H:0<m)(l:List K)(B:l.Nodup)(s:∀x ∈ l,x≠0)(A:∀x ∈ l,pw x m=1):l.length<=m:=by
 apply Decidable.byContradiction;intro L;have I:dg (λn=>if n=0 then(1:K) else if n=m then -1 else 0) m:=by
  intro i u;show(if i=0 then(1:K) else if i=m then -1 else 0)=0;rw[if_neg byO,if_neg byO]
 have C:∀x,pw x m=1->pv (λn=>if n=0 then(1:K) else if n=m then -1 else 0) m x=0:=by
  intro x j;unfold pv;rw[cM];have e:sm m (λi=>(if i=0 then(1:K) else if i=m then -1 else 0)*pw x i)=1:=by
   rw[lB (k:=0) H λi u h=>by rw[if_neg h,if_neg byO,zero_mul],if_pos rfl,ic,mul_one]
  rw[e];show 1+(if m=0 then(1:K) else if m=m then -1 else 0)*pw x m=0;rw[if_neg byO,if_pos rfl,j,mul_one,add_neg]
 have f:(l.take m).length=m:=Wr
 have c:∀x ∈ l.take m,x ∈ l:=λx j=>List.mem_of_mem_take j;have o:((l.take m).map inv).Nodup:=by
  rw[List.nodup_iff_pairwise_ne,List.pairwise_map];refine List.Pairwise.imp_of_mem ?_<|List.nodup_iff_pairwise_ne.1<|B.sublist<|List.take_sublist m l;intro a b F G g e;apply g;rw[<-inv_inv<|s a<|c a F,e,inv_inv<|s b<|c b G]
 obtain⟨q,J,r⟩:=ng ((l.take m).map inv) (l.take m) _ 0 Wc o (λi h E=>by
  rw[List.getElem_map];exact inv_mul<|s _<|c _<|List.getElem_mem E) (by rw[ay₀,f];exact I) (λx j=>by rw[ay₀,f];exact C x<|A x<|c x j)
 have w:q 0=1:=by
  have e:=congrFun r 0;rw[ry,km,one_mul]at e;exact e.symm
 have y:q=s1:=by
  funext i;unfold s1;split
  next h=>rw[h];exact w
  .exact J i byO
 rw[y,dr,ji]at r;have p:m<l.length:=byO;have d:=C l[m]<|A _<|List.getElem_mem p;rw[r]at d;have t:inv l[m] ∉ (l.take m).map inv:=by
  intro v;obtain⟨x,j,e⟩:=List.mem_map.1 v;have D:x=l[m]:=by rw[<-inv_inv<|s x<|c x j,e,inv_inv<|s _<|List.getElem_mem p]
  obtain⟨i,u,z⟩:=List.getElem_of_mem j;rw[List.getElem_take,D]at z;have:=(List.getElem_inj B).1 z;simp at u;omega
 have g:=ju t<|inv_mul<|s _<|List.getElem_mem p;rw[ay₀,f]at g;exact g d
theorem Num.cyclic:∃g:K,g≠0/\Ord g (N.q-1):=by
 have⟨l,H,M,c⟩:=N.elems;have⟨m,⟨a,s,i⟩,v⟩:=Hr (P:=λn=>∃a:K,a≠0/\Ord a n) (N.q-1) (λn ⟨a,s,h⟩=>by
  have⟨k,b,d⟩:=N.ord a s;have:=Nat.le_of_dvd b.1<|jP h b.2.1;omega) (n:=1) ⟨1,jq,byO,by rw[uY],λm w A=>byO⟩
 have t:∀x:K,x≠0->pw x m=1:=by
  intro x o;have⟨k,b,_⟩:=N.ord x o;apply Decidable.byContradiction;intro E;have z:¬ k ∣ m:=λF=>E<|(Le b).2 F;have⟨p,f,r,B,w,A,j,D⟩:=A0 b.1 i.1 z;have I:Ord (pw a<|p^f) r:=Ik (by rw[<-w];exact i);have J:Ord (pw x j)<|p^(f+1):=Ik (by rw[bb₀,<-D];exact b);have u:Nat.gcd r (p^(f+1))=1:=by rw[Nat.gcd_comm];exact rC (uV B A) _
  have L:=Lf I J u;have d:=v _ ⟨_,mul_ne_zero (cN s _)<|cN o _,L⟩;rw[w,Nat.pow_succ,bb₀ (p^f) r,<-Nat.mul_assoc]at d;have C:0<r*p^f:=by rw[bb₀,<-w];exact i.1
  have y:=B.1;have:r*p^f*2<=r*p^f*p:=Nat.mul_le_mul_left _ y;omega
 have d:=ua i.1 l H (λx o=>(c x).1 o) λx o=>t x<|(c x).1 o;have⟨k,b,G⟩:=N.ord a s;have:=Nat.le_of_dvd b.1<|jP i b.2.1;have e:m=N.q-1:=byO;rw[e]at i;exact⟨a,s,i⟩
end
instance boolFd:Fd Bool where
 add:=xor
 mul:=and
 neg:=id
 zero:=false
 one:=true
 inv:=id
 add_assoc':=Wd
 add_comm':=Wd
 add_zero':=Wd
 add_neg':=Wd
 mul_assoc':=Wd
 mul_comm':=Wd
 mul_one':=Wd
 mul_add':=Wd
 mul_inv':=Wd
 one_ne':=Wd
 dec:=inferInstance
def bt(a:Nat):Ser Bool:=λi=>a.testBit i
def sW{a b:Nat}(h:bt a=bt b):a=b:=Nat.eq_of_testBit_eq λi=>congrFun h i
theorem GM(a b:Nat):bt (a ^^^ b)=λi=>bt a i+bt b i:=by funext i;exact Nat.testBit_xor a b i
theorem oE{a d:Nat}(h:a<2^(d+1)):dg (bt a) d:=λi b=>Nat.testBit_lt_two_pow<|bd₀ h<|Nat.pow_le_pow_right byO byO
def I3{a d:Nat}(h:dg (bt a) d):a<2^(d+1):=Nat.lt_pow_two_of_testBit a λi b=>h i byO
def ofB:Nat->(Nat->Bool)->Nat
 | 0,_=>0
 | n+1,f=>ofB n f ||| (if f n=true then 2^n else 0)
theorem DH(f:Nat->Bool)(i:Nat):∀n,(ofB n f).testBit i=(decide (i<n)&&f i)
 | 0=>by simp[ofB]
 | n+1=>by
  rw[ofB,Nat.testBit_or,DH f i n]
  grind
def cl(a b:Nat):Nat:=ofB (a+b+1)<|cv (bt a)<|bt b
theorem I4(a:Nat):a<2^(a+1):=bd₀ Nat.lt_two_pow_self<|Nat.pow_le_pow_right byO byO
theorem mD(a b:Nat):bt (cl a b)=cv (bt a) (bt b):=by
 funext i;show(ofB (a+b+1)<|cv (bt a)<|bt b).testBit i=_;rw[DH];by_cases h:i<a+b+1
 .simp[h]
 .rw[HK (oE<|I4 a) (oE<|I4 b) i byO]
  simp[h];rfl
theorem jK(a b:Nat):cl a b=cl b a:=sW (by grind[mD,dr])
theorem kf(a b c:Nat):cl (cl a b) c=cl a (cl b c):=sW (by rw[mD,mD,mD,mD,dq])
theorem lK(a b c:Nat):cl a (b ^^^ c)=cl a b ^^^ cl a c:=sW (by
 rw[mD,GM,GM,mD,mD];grind[tG])
theorem Jo(a b c:Nat):cl (a ^^^ b) c=cl a c ^^^ cl b c:=by grind[jK,lK]
theorem Oh(k:Nat):bt (2^k)=sh k s1:=by
 funext i;show(2^k).testBit i=_;rw[Nat.testBit_two_pow];unfold sh s1;by_cases h:k=i
 .subst h;simp;rfl
 .by_cases a:k<=i
  .rw[if_pos a,if_neg byO];simp[h];rfl
  .rw[if_neg a];simp[h];rfl
theorem jh(a k:Nat):cl a (2^k)=a <<< k:=sW (by
 rw[jK,mD,Oh,Np,ji];funext i;show sh k (bt a) i=(a <<< k).testBit i;rw[Nat.testBit_shiftLeft];by_cases h:k<=i
 .rw[lA _ h];simp[h,bt]
 .rw[nD _ byO];simp[h];rfl)
theorem xK(a:Nat):cl a 1=a:=by have:=jh a 0;simpa using this
theorem Uo:bt 0=λ_=>0:=by funext i;exact Nat.zero_testBit i
theorem jL(a:Nat):cl a 0=0:=sW (by rw[mD,Uo,cv_null'])
where cv_null' {p:Ser Bool}:cv p (fun _=>0)=fun _=>0:=by funext n;exact fK fun i _=>mul_zero _
def iA{n:Nat}(h:n≠0):2^n.log2<=n:=Nat.log2_self_le h
theorem dM(n:Nat):n<2^(n.log2+1):=Nat.lt_log2_self
theorem lV{n:Nat}(h:n≠0):n.testBit n.log2=true:=by
 apply Decidable.byContradiction;intro b;have a:n.testBit n.log2=false:=X6
 have:n<2^n.log2:=Nat.lt_pow_two_of_testBit n λi c=>by
  by_cases e:i=n.log2
  .rw[e];exact a
  .exact Nat.testBit_lt_two_pow<|bd₀ (dM n)<|Nat.pow_le_pow_right byO byO
 have:=iA h;omega
theorem mj{n d:Nat}(c:2^d<=n)(e:n<2^(d+1)):n.log2=d:=by
 have h:n≠0:=by have:0<2^d:=Nat.pow_pos byO;omega
 have f:=iA h;have g:=dM n;have a:n.log2<d+1:=(Nat.pow_lt_pow_iff_right byO).1<|Nat.lt_of_le_of_lt f e;have b:d<n.log2+1:=(Nat.pow_lt_pow_iff_right byO).1<|Nat.lt_of_le_of_lt c g;omega
theorem Ar{a b:Nat}(c:a≠0)(d:b≠0):(cl a b).testBit (a.log2+b.log2)=true:=by
 have:=congrFun (mD a b)<|a.log2+b.log2;show bt (cl a b) (a.log2+b.log2)=true;rw[this];unfold cv;rw[lB (k:=a.log2) byO (λi f e=>by
  by_cases h:a.log2<i
  .rw[oE (dM a) i h,zero_mul]
  .rw[oE (dM b) _ byO,mul_zero])]
 rw[show a.log2+b.log2-a.log2=b.log2 by omega];show(a.testBit a.log2&&b.testBit b.log2)=true;rw[lV c,lV d];rfl
def Nn{a b:Nat}:cl a b<2^(a.log2+b.log2+1):=I3 (by
 rw[mD];exact HK (oE<|dM a)<|oE<|dM b)
def sj{a b:Nat}(c:a≠0)(d:b≠0):cl a b≠0:=by grind[Ar]
theorem Aq{a b:Nat}(c:a≠0)(d:b≠0):(cl a b).log2=a.log2+b.log2:=
 mj (Nat.ge_two_pow_of_testBit<|Ar c d) Nn
theorem oh{a b c:Nat}(h:a ^^^ b=c):a=c ^^^ b:=Xu
def G6(q:Nat)(g:q≠0):∀p,∃m r,r<2^q.log2/\p=cl q m ^^^ r:=by
 intro p
 induction p using Nat.strongRecOn with
 | _ p o=>
  by_cases h:p<2^q.log2
  .exact⟨0,p,h,by rw[jL,Nat.zero_xor]⟩
  .have f:p≠0:=by have:0<2^q.log2:=Nat.pow_pos byO;omega
   have k:q.log2<=p.log2:=by
    have a:=dM p;have:2^q.log2<2^(p.log2+1):=byO;have:=(Nat.pow_lt_pow_iff_right (by omega:1<2)).1 this;omega
   have n:(q <<< (p.log2-q.log2)).log2=p.log2:=by
    rw[<-jh,Aq g<|Nat.pos_iff_ne_zero.1<|Nat.pow_pos byO,mj (Nat.le_refl _)<|Nat.pow_lt_pow_right byO byO];omega
   have d:q <<< (p.log2-q.log2)≠0:=by rw[<-jh];exact sj g<|Nat.pos_iff_ne_zero.1<|Nat.pow_pos byO
   have c:p ^^^ q <<< (p.log2-q.log2)<2^p.log2:=Nat.lt_pow_two_of_testBit _ λi s=>by
    rw[Nat.testBit_xor];by_cases e:i=p.log2
    .have:=lV d
     rw[n]at this;rw[e,lV f,this];rfl
    .have a:=oE (dM p) i byO
     have b:=oE (dM<|q <<< (p.log2-q.log2)) i byO;have a:p.testBit i=false:=a;have b:(q <<< (p.log2-q.log2)).testBit i=false:=b;rw[a,b];rfl
   have⟨m,r,l,j⟩:=o _<|bd₀ c<|iA f;refine⟨m ^^^ 2^(p.log2-q.log2),r,l,?_⟩;rw[lK,jh]
   conv=>lhs;rw[oh j]
   rw[Nat.xor_assoc,Nat.xor_comm r,<-Nat.xor_assoc]
def yr{q m:Nat}(b:q≠0)(h:cl q m<2^q.log2):m=0:=by apply Decidable.byContradiction;intro a;have:=Nat.ge_two_pow_of_testBit<|Ar b a;have c:2^q.log2<=2^(q.log2+m.log2):=Nat.pow_le_pow_right byO byO;omega
def JE{q m a r r':Nat}(b:q≠0)(g:r<2^q.log2)(c:r'<2^q.log2)(h:cl q m ^^^ r=cl q a ^^^ r'):r=r':=by
 have e:cl q (m ^^^ a)=r ^^^ r':=by
  rw[lK];have d:=oh h
  grind
 have f:=yr b (by rw[e];simp_all[Nat.xor_lt_two_pow])
 grind[jL,oh]
def Irr(p:Nat):Prop:=∀t,2<=t->2*t.log2<=p.log2->¬ ∃m,p=cl t m
def EY{p a b:Nat}(x:Irr p)(v:a<2^p.log2)(A:b<2^p.log2)(B:∃m,cl a b=cl p m):a=0\/b=0:=by
 apply Decidable.byContradiction;intro w;have l:a≠0:=λe=>w<|.inl e;have o:b≠0:=λe=>w<|.inr e;have j:p≠0:=by
  rintro rfl;have h:Nat.log2 0=0:=Wd
  rw[h]at v;omega
 have⟨a',_,⟨k,y,m,f⟩,i⟩:=least (P:=λa=>a≠0/\a<2^p.log2/\∃m,cl a b=cl p m) a ⟨l,v,B⟩;have⟨q,r,C,c⟩:=G6 a' k p;have d:r=0:=by
  apply Decidable.byContradiction;intro d;have s:r<a':=bd₀ C<|iA k;refine i r s ⟨d,byO,b ^^^ cl q m,?_⟩;have e:r=p ^^^ cl a' q:=by rw[c,Nat.xor_comm (cl a' q) r,Nat.xor_assoc,Nat.xor_self,Nat.xor_zero]
  rw[lK,e,Jo,jK a' q,kf,f,<-kf,jK q p,kf]
 rw[d,Nat.xor_zero]at c;have t:q≠0:=by rintro rfl;rw[jL]at c;exact j c
 have g:=Aq k t;rw[<-c]at g;have n:2<=a':=by
  have:a'≠1:=by
   rintro rfl;rw[jK,xK]at f;have:=yr j (by rw[<-f];exact A);rw[this,jL]at f;exact o f
  omega
 have z:a'.log2<p.log2:=by
  have:=Nat.lt_of_le_of_lt (iA k) y;exact(Nat.pow_lt_pow_iff_right (by omega:1<2)).1 this
 have u:2<=q:=by
  have:q≠1:=by
   rintro rfl;have h:Nat.log2 1=0:=Wd
   omega
  omega
 rcases Nat.lt_or_ge p.log2 (2*a'.log2)with h|h
 .exact x q u byO ⟨a',by rw[jK];exact c⟩
 .exact x a' n h ⟨q,c⟩
structure FD where
 q:Nat
 poly:Nat
def FD.Ok(f:FD):Prop:=(f.poly=0/\2<f.q/\f.q<=4096/\Pr f.q)\/(f.poly≠0/\2<=f.poly/\f.poly.log2<=12/\f.q=2^f.poly.log2/\Irr f.poly)
structure El (f:FD) where
 val:Nat
 lt:val<f.q
theorem El.ext{f:FD}{a b:El f}(h:a.val=b.val):a=b:=by cases a;simp_all
def pO{p:Nat}(h:2<=p):1<=p.log2:=by have a:=dM p;apply Decidable.byContradiction;intro b;have:p.log2=0:=byO;rw[this]at a;omega
theorem FD.Ok.two{f:FD}(h:f.Ok):2<=f.q/\f.q<=4096:=by
 rcases h with ⟨_,c,d,_⟩|⟨_,c,d,e,_⟩
 .omega
 .rw[e]
  have:=pO c;have a:2^1<=2^f.poly.log2:=Nat.pow_le_pow_right byO this;have b:2^f.poly.log2<=2^12:=Nat.pow_le_pow_right byO d;omega
def JC(p q:Nat)(a:q≠0):∃r,r<2^q.log2/\∃m,p=cl q m ^^^ r:=by have⟨m,r,b,c⟩:=G6 q a p;grind
noncomputable def rm(p q:Nat):Nat:=if h:q≠0 then(JC p q h).choose else 0
def AK{q:Nat}(a:q≠0)(p:Nat):rm p q<2^q.log2:=by unfold rm;rw[dif_pos a];exact(JC p q a).choose_spec.1
def wb{q:Nat}(a:q≠0)(p:Nat):∃m,p=cl q m ^^^ rm p q:=by grind[rm]
def AL{q:Nat}(a:q≠0){p r m:Nat}(c:r<2^q.log2)(h:p=cl q m ^^^ r):rm p q=r:=by have⟨d,b⟩:=wb a p;exact JE a (AK a p) c<|b.symm.trans h
theorem Bi{q:Nat}(a:q≠0)(p m:Nat):rm (p ^^^ cl q m) q=rm p q:=by
 have⟨c,b⟩:=wb a p;apply AL a (AK a p) (m:=c ^^^ m);rw[lK]
 conv=>lhs;rw[b]
 rw[Nat.xor_assoc,Nat.xor_comm<|rm p q,Nat.xor_assoc]
theorem kI{q r:Nat}(a:q≠0)(b:r<2^q.log2):rm r q=r:=AL a b (m:=0) (by rw[jL,Nat.zero_xor])
theorem JI{q:Nat}(c:q≠0)(a b:Nat):rm (a ^^^ b) q=rm a q ^^^ rm b q:=by
 have⟨m,h⟩:=wb c a;have⟨d,e⟩:=wb c b;apply AL c (Nat.xor_lt_two_pow (AK c a)<|AK c b) (m:=m ^^^ d);rw[lK]
 conv=>lhs;rw[h,e]
 rw[Nat.xor_assoc,Nat.xor_assoc,<-Nat.xor_assoc<|rm a q,Nat.xor_comm<|rm a q,Nat.xor_assoc<|cl q d]
theorem yQ{q:Nat}(c:q≠0)(a b:Nat):rm (cl (rm a q) b) q=rm (cl a b) q:=by grind[rm,Jo,kf,Bi]
theorem MB{q:Nat}(c:q≠0)(a b:Nat):rm (cl a<|rm b q) q=rm (cl a b) q:=by grind[jK,yQ]
noncomputable def gA(f:FD)(a b:Nat):Nat:=if f.poly=0 then(a+b)%f.q else a ^^^ b
noncomputable def fj(f:FD)(a b:Nat):Nat:=if f.poly=0 then a*b%f.q else rm (cl a b) f.poly
def vD(f:FD)(a:Nat):Nat:=if f.poly=0 then(f.q-a)%f.q else a
def C8{f:FD}(h:f.Ok){a b:Nat}(g:a<f.q)(i:b<f.q):gA f a b<f.q:=by
 unfold gA;rcases h with ⟨c,e,_⟩|⟨c,e,j,d,_⟩
 .rw[if_pos c];exact Nat.mod_lt _ byO
 .rw[if_neg c,d];exact Nat.xor_lt_two_pow (by rw[<-d];exact g) (by rw[<-d];exact i)
def Ca{f:FD}(h:f.Ok)(a b:Nat):fj f a b<f.q:=by
 unfold fj;rcases h with ⟨c,d,_⟩|⟨c,d,g,e,_⟩
 .rw[if_pos c];exact Nat.mod_lt _ byO
 .rw[if_neg c,e];exact AK c _
def Cb{f:FD}(h:f.Ok){a:Nat}(b:a<f.q):vD f a<f.q:=by
 unfold vD;have:=h.two;split
 .exact Nat.mod_lt _ byO
 .exact b
def EI(f:FD)(a b:Nat):fj f a b=fj f b a:=by grind[fj,jK]
def BG{f:FD}(h:f.Ok)(a b c:Nat):fj f (fj f a b) c=fj f a (fj f b c):=by grind[fj,Nat.mod_mul_mod,Nat.mul_mod_mod,yQ,MB,kf]
theorem ta{f:FD}(h:f.Ok)(a b c:Nat):fj f a (gA f b c)=gA f (fj f a b) (fj f a c):=by
 unfold fj gA;rcases h with ⟨d,e,_⟩|⟨d,e,g,i,_⟩
 .simp only[if_pos d]
  rw[Nat.mul_mod_mod,Nat.mul_add,<-Nat.add_mod]
 .simp[if_neg d]
  rw[lK,JI d]
def B8{p a b:Nat}(d:Pr p)(h:p ∣ a*b):p ∣ a\/p ∣ b:=by
 by_cases c:p ∣ a
 .exact .inl c
 .exact .inr<|Nat.Coprime.dvd_of_dvd_mul_left (uV d c) h
def xW{f:FD}(h:f.Ok){a b:Nat}(j:a<f.q)(k:b<f.q)(e:fj f a b=0):a=0\/b=0:=by
 unfold fj at e;rcases h with ⟨c,i,_,p⟩|⟨c,i,q,d,o⟩
 .rw[if_pos c]at e
  have n:=Nat.dvd_of_mod_eq_zero e;rcases B8 p n with h|h
  .left
   apply Decidable.byContradiction;intro l;have:=Nat.le_of_dvd byO h;omega
  .right
   apply Decidable.byContradiction;intro l;have:=Nat.le_of_dvd byO h;omega
 .rw[if_neg c]at e
  have⟨m,g⟩:=wb c<|cl a b;rw[e,Nat.xor_zero]at g;exact EY o (by rw[<-d];exact j) (by rw[<-d];exact k) ⟨m,g⟩
theorem pH{f:FD}(h:f.Ok){a:Nat}(g:a<f.q):gA f a (vD f a)=0:=by
 unfold gA vD;rcases h with ⟨b,c,_⟩|⟨b,c,d,e,_⟩
 .rw[if_pos b,if_pos b,Nat.add_mod_mod,show a+(f.q-a)=f.q by omega,Nat.mod_self]
 simp_all
theorem tX(f:FD)(a b c:Nat):gA f (gA f a b) c=gA f a (gA f b c):=by grind[gA,Nat.add_mod_mod]
theorem nR(f:FD)(a b:Nat):gA f a b=gA f b a:=by unfold gA;rw[Nat.add_comm,Nat.xor_comm]
theorem vy{f:FD}(h:f.Ok){a:Nat}(b:a<f.q):gA f a 0=a:=by grind[gA,Nat.mod_eq_of_lt]
def Hi{f:FD}(h:f.Ok){a:Nat}(c:a<f.q):fj f a 1=a:=by
 unfold fj;rcases h with ⟨b,d,_⟩|⟨b,d,g,e,_⟩
 .rw[if_pos b,Nat.mul_one,Nat.mod_eq_of_lt c]
 .rw[if_neg b,xK,kI b (by rw[<-e];exact c)]
theorem EJ{f:FD}(h:f.Ok)(a:Nat):fj f a 0=0:=by
 unfold fj;rcases h with ⟨b,c,_⟩|⟨b,c,d,e,_⟩
 .rw[if_pos b];simp
 .rw[if_neg b,jL,kI b<|Nat.pow_pos byO]
def zJ{f:FD}(h:f.Ok){a b c:Nat}(d:a<f.q)(g:b<f.q)(i:c<f.q)(e:gA f a b=gA f a c):b=c:=by
 have:gA f (vD f a) (gA f a b)=gA f (vD f a) (gA f a c):=by rw[e]
 grind[tX,nR,pH,vy]
def xV{f:FD}(h:f.Ok){a:Nat}(n:a<f.q)(m:a≠0):∃b,b<f.q/\fj f a b=1:=by
 refine rU (λi _=>Ca h a i) (λi j g c e=>?_) (by have:=h.two;omega);have k:=Cb h c;have l:fj f a (gA f i<|vD f j)=0:=by
  rw[ta h,e,<-ta h,pH h c,EJ h]
 rcases xW h n (C8 h g k) l with d|d
 .exact absurd d m
 .apply zJ h k g c
  rw[nR f _ i,d,nR f _ j,pH h c]
@[reducible] noncomputable def FD.Ok.fd{f:FD}(h:f.Ok):Fd (El f) where
 add a b:=⟨gA f a.val b.val,C8 h a.lt b.lt⟩
 mul a b:=⟨fj f a.val b.val,Ca h _ _⟩
 neg a:=⟨vD f a.val,Cb h a.lt⟩
 zero:=⟨0,by have:=h.two;omega⟩
 one:=⟨1,by have:=h.two;omega⟩
 inv a:=if e:a.val≠0 then⟨(xV h a.lt e).choose,(xV h a.lt e).choose_spec.1⟩ else a
 add_assoc' a b c:=El.ext (tX f _ _ _)
 add_comm' a b:=El.ext (nR f _ _)
 add_zero' a:=El.ext (vy h a.lt)
 add_neg' a:=El.ext (pH h a.lt)
 mul_assoc' a b c:=El.ext (BG h _ _ _)
 mul_comm' a b:=El.ext (EI f _ _)
 mul_one' a:=El.ext (Hi h a.lt)
 mul_add' a b c:=El.ext (ta h _ _ _)
 mul_inv' a ha:=by
  have e:a.val≠0:=λe=>ha<|El.ext e;apply El.ext;simp[dif_pos e];exact(xV h a.lt e).choose_spec.2
 one_ne':=by intro e;have:=congrArg El.val e;grind
 dec a b:=if e:a.val=b.val then isTrue (El.ext e) else isFalse λe2=>e (by rw[e2])
noncomputable def FD.Ok.num{f:FD}(h:f.Ok):@Num (El f) h.fd:=@Num.mk (El f) h.fd f.q El.val El.lt (λ_ _=>El.ext) (λi hi=>⟨⟨i,hi⟩,rfl⟩) rfl
class OkC (f:FD):Prop where
 ok:f.Ok
noncomputable instance {f:FD}[h:OkC f]:Fd<|El f:=h.ok.fd
section
variable {f:FD}[OkC f]
theorem nK:(0:El f).val=0:=rfl
theorem Ja:(1:El f).val=1:=rfl
theorem val_mul(a b:El f):(a*b).val=fj f a.val b.val:=rfl
theorem val_add(a b:El f):(a+b).val=gA f a.val b.val:=rfl
def gh{a:El f}(h:a≠0):a.val≠0:=λe=>h<|El.ext e
theorem fR{a:El f}(h:a.val=0):a=0:=El.ext h
end
section
variable {K:Type}[Fd K]
def Bd{g:K}{n:Nat}(c:g≠0)(h:Ord g n):∀i j,i<n->j<n->pw g i=pw g j->i=j:=by
 have a:∀i k,i+k<n->pw g i=pw g (i+k)->k=0:=by
  intro i k m e;rw[iB]at e;have b:pw g k=1:=by
   symm
   apply mul_left_cancel<|cN c i;rw[mul_one];exact e
  apply Decidable.byContradiction;intro d;exact h.2.2 k byO byO b
 intro i j f l e;rcases Nat.le_total i j with h|h
 .have:=a i (j-i) byO (by rw[show i+(j-i)=j by omega];exact e);omega
 .have:=a j (i-j) byO (by rw[show j+(i-j)=i by omega];exact e.symm);omega
theorem Num.pow_sur(N:Num K){g:K}(b:g≠0)(h:Ord g<|N.q-1){x:K}(l:x≠0):∃n,n<N.q-1/\pw g n=x:=by
 have a:∀{y:K},y≠0->N.val y≠0:=λp e=>p<|N.inj _ 0 (by rw[e,N.v0]);have⟨n,o,e⟩:=rU (q:=N.q-1) (f:=λi=>N.val (pw g i)-1) (λi k=>by
   have c:=N.lt<|pw g i;have d:=a<|cN b i;omega) (λi j k m e=>by
   have c:=a<|cN b i;have d:=a<|cN b j;exact Bd b h i j k m<|N.inj _ _ byO) (y:=N.val x-1) (by
   have c:=N.lt x;have d:=a l;omega)
 refine⟨n,o,N.inj _ _ ?_⟩;have c:=a<|cN b n;have d:=a l;omega
end
section
variable {f:FD}[OkC f]
def pow_sur{g:El f}(a:g≠0)(h:Ord g<|f.q-1){x:El f}(b:x≠0):∃n,n<f.q-1/\pw g n=x:=Num.pow_sur (OkC.ok (f:=f)).num a h b
end
section
variable {K:Type}[Fd K]
theorem IG{g:K}{n k m:Nat}(h:pw g n=1)(a:k+m=n):inv (pw g k)=pw g m:=by apply nT;rw[<-iB,a,h]
theorem PK{g:K}{n i j:Nat}(h:Ord g n)(a:i<n)(b:j<n):pw g ((i+n-j)%n)=pw g i*inv (pw g j):=by rw[yN h.2.1,IG (m:=n-j) h.2.1 byO,<-iB,show i+n-j=i+(n-j) by omega]
theorem L4{g:K}{n i j:Nat}(h:Ord g n):pw g ((i+j)%n)=pw g i*pw g j:=by rw[yN h.2.1,iB]
end
section
variable {K:Type}[Fd K]
def co(l:List K):Ser K:=λi=>l.getD i 0
def tab(n:Nat)(F:Nat->K):List K:=(List.range n).map F
theorem aJ(n:Nat)(F:Nat->K):(tab n F).length=n:=by simp[tab]
theorem qq{l:List K}{i:Nat}(h:i<l.length):co l i=l[i]:=by grind[co]
theorem mM{l:List K}{i:Nat}(h:l.length<=i):co l i=0:=by unfold co;rw[au₀,av₀ h];rfl
theorem fe{n:Nat}{F:Nat->K}{i:Nat}(h:i<n):(tab n F).getD i 0=F i:=by grind[tab]
theorem dm(n:Nat)(F:Nat->K)(i:Nat):co (tab n F) i=if i<n then F i else 0:=by
 split
 next h=>exact fe h
 next h=>exact mM Xc
theorem ag{n:Nat}{F G:Nat->K}(h:∀i,i<n->F i=G i):tab n F=tab n G:=by grind[tab,List.map_congr_left]
theorem J4(l:List K):tab l.length (co l)=l:=by grind[List.ext_getElem,aJ,tab,qq]
theorem lq{n:Nat}{F:Nat->K}{k:Nat}{v:K}:(tab n F).set k v=tab n λi=>if i=k then v else F i:=by
 apply List.ext_getElem
 .simp[tab]
 .intro i a b
  rw[List.getElem_set];simp[tab,List.getElem_map,List.getElem_range];split
  next h=>rw[if_pos h.symm]
  next h=>rw[if_neg λe=>h e.symm]
theorem gH(n:Nat):List.replicate n (0:K)=tab n λ_=>0:=by
 apply List.ext_getElem
 all_goals grind[tab]
def RK{n:Nat}{F:Nat->K}{l:List K}(h:l.length=n)(a:∀i,i<n->co l i=F i):l=tab n F:=by rw[<-J4 l,h];exact ag a
def SK(l:List K):dg (co l)<|l.length-1:=λi a=>mM byO
def hor(l:List K)(x:K):K:=l.foldr (λc v=>v*x+c) 0
theorem x8(x:K):∀l:List K,hor l x=sm l.length λi=>co l i*pw x i
 | []=>rfl
 | c::l=>by
  show hor l x*x+c=_;rw[ak₀,nE,x8 x l,p4]
  grind[co,pw,mul_one,add_comm,mul_assoc]
theorem P1{l:List K}{d:Nat}(h:dg (co l) d)(x:K):hor l x=pv (co l) d x:=by
 rw[x8];unfold pv;rcases Nat.le_total l.length (d+1)with c|c
 .exact(kY c λi a b=>by rw[mM a,zero_mul]).symm
 .exact kY c λi a b=>by rw[h i byO,zero_mul]
def dK(l:List K)(x:K):K:=l.foldl (λv c=>v*x+c) 0
theorem zV(l m:List K)(x:K):dK (l++m) x=m.foldl (λv c=>v*x+c) (dK l x):=by unfold dK;rw[List.foldl_append]
theorem ma{l:List K}{i:Nat}(h:i<l.length)(x:K):dK (l.take<|i+1) x=dK (l.take i) x*x+co l i:=by grind[List.take_add_one,zV,qq]
theorem IB(l:List K)(x:K):dK l x=hor l.reverse x:=by unfold dK hor;rw[List.foldr_reverse]
theorem Kk(x:K):∀l:List K,dK l x=sm l.length λi=>co l i*pw x (l.length-1-i):=by
 intro l;rw[IB,x8,List.length_reverse,Bq]
 grind[bW,qq]
def rows(p q:Ser K)(i k:Nat):K:=sm i λa=>p a*sh a q k
def DY{p q:Ser K}{n:Nat}(f:∀i,n<=i->p i=0)(k:Nat):rows p q n k=cv p q k:=by
 unfold rows cv;have c:sm (max n<|k+1) (λa=>p a*sh a q k)=sm n λa=>p a*sh a q k:=kY byO λi b e=>by rw[f i b,zero_mul]
 have d:sm (max n<|k+1) (λa=>p a*sh a q k)=sm (k+1) λa=>p a*sh a q k:=kY byO λi b e=>by rw[nD _ byO,mul_zero]
 rw[<-c,d];exact bW λi g=>by rw[lA _ byO]
theorem wc(p q:Ser K)(i k:Nat):rows p q (i+1) k=rows p q i k+p i*sh i q k:=rfl
def bml(s:Ser K):Nat->Nat×Nat
 | 0=>(1,1)
 | n+1=>if cv (Reg.run s n).C s n=0 then bml s n
  else(max (bml s n).1<|(bml s n).2+(Reg.run s n).m,if 2*(Reg.run s n).L<=n then(bml s n).1 else(bml s n).2)
def qA(s:Ser K):∀n,(∀i,(bml s n).1<=i->(Reg.run s n).C i=0)/\(∀i,(bml s n).2<=i->(Reg.run s n).B i=0)/\1<=(bml s n).1
 | 0=>by
  refine⟨λi a=>?_,λi a=>?_,Nat.le_refl _⟩
  .show(s1:Ser K) i=0
   unfold s1;rw[if_neg (by simp[bml]at a;omega)]
  .show(s1:Ser K) i=0
   unfold s1;rw[if_neg (by simp[bml]at a;omega)]
 | n+1=>by
  have⟨c,d,f⟩:=qA s n;simp[bml,Reg.run,Reg.next];split
  .exact⟨c,d,f⟩
  .have e:∀i,max (bml s n).1 ((bml s n).2+(Reg.run s n).m)<=i->(Reg.run s n).C i-cv (Reg.run s n).C s n*inv (Reg.run s n).b*sh (Reg.run s n).m (Reg.run s n).B i=0:=by
    intro i a;rw[c i byO,lA _ byO,d (i-(Reg.run s n).m) byO,mul_zero];exact(show(0-0)=0 from cD [((1:K))] (.add .zero<|.neg .zero) .zero rfl)
   split
   .exact⟨e,c,Xr⟩
   .exact⟨e,d,Xr⟩
def trim:List K->List K
 | []=>[]
 | a::l=>match trim l with
  | []=>if a=0 then[] else[a]
  | m=>a::m
theorem nH:∀l:List K,trim (l++[0])=trim l
 | []=>by simp[trim]
 | a::l=>by simp[am₀,trim,nH l]
theorem pf{b:K}(c:b≠0):∀l:List K,trim (l++[b])=l++[b]
 | []=>by simp[trim,c]
 | a::l=>by
  simp only[am₀,trim,pf c l];split
  next h=>simp at h
  .rfl
theorem xC{l:List K}:∀{n:Nat},n<=l.length->(∀i,n<=i->co l i=0)->trim (l.take n)=trim l:=by
 intro n e b;have a:∀k,n+k<=l.length->trim (l.take<|n+k)=trim (l.take n):=by
  intro k
  induction k with
  | zero=>intro _;rfl
  | succ k c=>
   intro d;rw[<-Nat.add_assoc,List.take_add_one,bc₀ (show n+k<l.length by omega)];have:l[n+k]=0:=by rw[<-qq (show n+k<l.length by omega)];exact b _ byO
   rw[this,Option.toList_some,nH,c byO]
 have:=a (l.length-n) byO;rw[show n+(l.length-n)=l.length by omega,List.take_length]at this;exact this.symm
def xB{l:List K}{n:Nat}(a:n<l.length)(h:co l n≠0):trim (l.take<|n+1)=l.take (n+1):=by grind[List.take_add_one,pf,qq]
theorem CU:∀(l:List K) (i:Nat),co (trim l) i=co l i
 | [],_=>rfl
 | a::l,i=>by
  have b:=CU l;simp[trim];split
  next h=>
   rw[h]at b;split
   next c=>
    cases i with
    | zero=>rw[c];rfl
    | succ i=>exact b i
   .cases i with
    | zero=>rfl
    | succ i=>exact b i
  .cases i with
   | zero=>rfl
   | succ i=>exact b i
def nG:∀l:List K,(trim l).length<=l.length
 | []=>Nat.le_refl _
 | a::l=>by
  have:=nG l
  grind[trim]
end
section
variable {K:Type}[Fd K]
theorem gg(X:K):∀l:List K,aY (l++[X])=cv (lin X) (aY l)
 | []=>rfl
 | Y::l=>by
  show cv (lin Y) (aY<|l++[X])=cv (lin X) (cv (lin Y)<|aY l);rw[gg X l,<-dq,dr<|lin Y,dq]
theorem uA:∀(l:List K) (j:Nat) (h:j<l.length),aY l=cv (lin l[j]) (aY<|l.eraseIdx j)
 | [],j,h=>by simp at h
 | X::l,0,_=>rfl
 | X::l,j+1,h=>by
  have a:j<l.length:=Wy
  show cv (lin X) (aY l)=cv (lin l[j]) (cv (lin X)<|aY<|l.eraseIdx j);rw[uA l j a,<-dq,<-dq,dr<|lin X]
theorem Av{p:Ser K}{s:Nat}(c:dg p s){X:K}(a:X≠0)(k:Nat):cv p (geo X) (s+k)=pw X (s+k)*pv p s (inv X):=by unfold cv pv;rw[kY (m:=s+1) byO λi d f=>by rw[c i byO,zero_mul],lk];refine bW λi g=>?_;obtain⟨j,b⟩:∃j,s+k=j+i:=⟨s+k-i,byO⟩;show p i*pw X (s+k-i)=_;rw[b,show j+i-i=j by omega,iB];have:=oM (iY a) i;have e:=(show(((pw X j)*(pw X i))*((p i)*(pw (inv X) i)))=(((p i)*(pw X j))*((pw X i)*(pw (inv X) i))) from cD [(p i),(pw X j),(pw X i),(pw (inv X) i)] (.mul (.mul (.v 1)<|.v 2)<|.mul (.v 0)<|.v 3) (.mul (.mul (.v 0)<|.v 1)<|.mul (.v 2)<|.v 3) rfl);rw[e,this,mul_one]
def thin(p:Ser K)(s:Nat)(l:List<|K×K):List<|K×K:=l.map λa=>(a.1*pw a.2 s*pv p s (inv a.2),a.2)
theorem vX{p:Ser K}{s:Nat}(b:dg p s):∀(l:List<|K×K),(∀a ∈ l,a.2≠0)->∀k,cv p (gs l) (s+k)=gs (thin p s l) k
 | [],_,k=>by
  show cv p (λ_=>0) (s+k)=0;rw[xL]
 | (y,X)::l,h,k=>by
  have c:=h (y,X) Wc;show cv p (λn=>y*geo X n+gs l n) (s+k)=y*pw X s*pv p s (inv X)*geo X k+gs (thin p s l) k;rw[tG,vZ,Av b c,vX b l (λa d=>h a Yb) k,iB];congr 1;show y*(pw X s*pw X k*pv p s (inv X))=y*pw X s*pv p s (inv X)*pw X k;exact(show(y*(((pw X s)*(pw X k))*(pv p s<|inv X)))=(((y*(pw X s))*(pv p s<|inv X))*(pw X k)) from cD [y,(pw X s),(pw X k),(pv p s<|inv X)] (.mul (.v 0)<|.mul (.mul (.v 1)<|.v 2)<|.v 3) (.mul (.mul (.mul (.v 0)<|.v 1)<|.v 3)<|.v 2) rfl)
theorem xZ(l m:List<|K×K)(k:Nat):gs (l++m) k=gs l k+gs m k:=by
 induction l with
 | nil=>exact(zero_add _).symm
 | cons a l b=>
  have⟨y,X⟩:=a;show y*geo X k+gs (l++m) k=y*geo X k+gs l k+gs m k;rw[b,add_assoc]
theorem Db(p:Ser K)(s:Nat)(l:List<|K×K):xs (thin p s l)=xs l:=by simp[xs,thin]
theorem Aa(p:Ser K)(s:Nat)(l:List<|K×K):(thin p s l).length=l.length:=by simp[thin]
def LC{S:Ser K}{r:Nat}(b d:List<|K×K)(u:∀k,k<r->S k=gs (b++d) k)(v:∀a ∈ b++d,a.2≠0)(x:∀a ∈ d,a.1≠0)(o:(xs<|b++d).Nodup)(q:2*d.length+b.length<=r) :
  (Reg.run (λk=>cv S (aY<|xs b)<|b.length+k)<|r-b.length).C=aY (xs d)/\(Reg.run (λk=>cv S (aY<|xs b)<|b.length+k)<|r-b.length).L=d.length:=by
 have l:=ec<|xs b;rw[gW]at l;have f:∀a ∈ d,a.2≠0:=λa g=>v a (by simp[g]);have p:xs (b++d)=xs b++xs d:=by simp[xs]
 rw[p]at o;have n:∀k,k<r-b.length->cv S (aY<|xs b) (b.length+k)=gs (thin (aY<|xs b) b.length d) k:=by
  intro k z;have t:cv S (aY<|xs b) (b.length+k)=cv (λk=>gs b k+gs d k) (aY<|xs b) (b.length+k):=
   mN (λi y=>by rw[u i byO,xZ]) λ_ _=>rfl
  rw[t,yu,dr,CW,rD b _ byO,zero_add,dr,vX l d f]
 have e:=iy (λk=>cv S (aY<|xs b)<|b.length+k)<|r-b.length;have s:=Dv e.gen e.min (thin (aY<|xs b) b.length d) (by
  intro a g;obtain⟨c,h,rfl⟩:=List.mem_map.1 g;have j:=f c h;apply mul_ne_zero (mul_ne_zero (x c h)<|cN j _);have m:c.2 ∉ xs b:=by
   intro w;have:=(List.nodup_append.1 o).2.2 c.2 w c.2<|List.mem_map.2 ⟨c,h,rfl⟩;exact this rfl
  have:=ju m<|iY j;rwa [gW]at this) (by
  intro a g;obtain⟨c,h,rfl⟩:=List.mem_map.1 g;exact f c h) (by rw[Db];exact(List.nodup_append.1 o).2.1) n (by rw[Aa];omega)
 rw[Db,Aa]at s;exact s
def der(p:Ser K):Ser K:=λn=>nsm 1 (n+1)*p (n+1)
theorem KO(X:K)(p:Ser K)(n:Nat):der (cv (lin X) p) n=cv (lin X) (der p) n-X*p n:=by
 unfold der;rw[oT];cases n with
 | zero=>
  rw[pD];show nsm 1 1*(p 1-X*p 0)=nsm 1 1*p 1-X*p 0;have e:nsm (1:K) 1=1:=zero_add 1;rw[e];exact(show(1*((p 1)-(X*(p 0))))=((1*(p 1))-(X*(p 0))) from cD [X,(p 1),(p 0)] (.mul .one<|.add (.v 1)<|.neg<|.mul (.v 0)<|.v 2) (.add (.mul .one<|.v 1)<|.neg<|.mul (.v 0)<|.v 2) rfl)
 | succ n=>
  rw[oT];have e:nsm (1:K) (n+1+1)=nsm 1 (n+1)+1:=rfl;rw[e];exact(show(((nsm (1:K)<|n+1)+1)*((p<|n+1+1)-(X*(p<|n+1))))=(((((nsm (1:K)<|n+1)+1)*(p<|n+1+1))-(X*((nsm (1:K)<|n+1)*(p<|n+1))))-(X*(p<|n+1))) from cD [X,(nsm (1:K)<|n+1),(p<|n+1+1),(p<|n+1)] (.mul (.add (.v 1) .one)<|.add (.v 2)<|.neg<|.mul (.v 0)<|.v 3) (.add (.add (.mul (.add (.v 1) .one)<|.v 2)<|.neg<|.mul (.v 0)<|.mul (.v 1)<|.v 3)<|.neg<|.mul (.v 0)<|.v 3) rfl)
def PJ{p:Ser K}{d:Nat}(h:dg p<|d+1):dg (der p) d:=λi a=>by
 show nsm 1 (i+1)*p (i+1)=0;rw[h (i+1) byO,mul_zero]
def HJ{l:List K}{j:Nat}(c:j<l.length){x:K}(e:l[j]*x=1):pv (der<|aY l) (l.length-1) x=- (l[j]*pv (aY<|l.eraseIdx j) (l.length-1) x):=by
 have k:=uA l j c;have m:=List.length_eraseIdx_of_lt c;have a:=ec<|l.eraseIdx j;rw[m]at a;have b:dg (der<|aY<|l.eraseIdx j)<|l.length-1-1:=by
  by_cases h:l.length-1=0
  .intro i p
   show nsm 1 (i+1)*aY (l.eraseIdx j) (i+1)=0;rw[a (i+1) byO,mul_zero]
  .exact PJ (by rw[show l.length-1-1+1=l.length-1 by omega];exact a)
 have d:der (aY l)=λn=>cv (lin l[j]) (der<|aY<|l.eraseIdx j) n+- (l[j]*aY (l.eraseIdx j) n):=by
  rw[k];funext n;rw[KO];rfl
 rw[d,Bb];have f:pv (cv (lin l[j])<|der<|aY<|l.eraseIdx j) (l.length-1) x=0:=by
  by_cases h:l.length-1=0
  .have o:der (aY<|l.eraseIdx j)=λ_=>0:=by
    funext n;show nsm 1 (n+1)*aY (l.eraseIdx j) (n+1)=0;rw[a (n+1) byO,mul_zero]
   rw[o,xL];exact fK λi _=>zero_mul _
  .have:=pT (mQ l[j]) b x
   rw[uX,e,sub_self,zero_mul,show 1+(l.length-1-1)=l.length-1 by omega]at this;exact this
 rw[f,zero_add];have g:(λi=>- (l[j]*aY (l.eraseIdx j) i))=λi=>(- l[j])*aY (l.eraseIdx j) i:=by
  funext i;rw[neg_mul]
 rw[g,yM,neg_mul]
end
section
variable {K:Type}[Fd K]
def sel(φ:Nat->Bool)(n:Nat):XN:=(List.range n).filter φ
theorem dQ(φ:Nat->Bool)(n:Nat):sel φ (n+1)=sel φ n++(if φ n=true then[n] else[]):=by unfold sel;rw[List.range_succ,List.filter_append];congr 1;cases h:φ n<;>simp[h]
theorem fI{φ:Nat->Bool}{n i:Nat}:i ∈ sel φ n↔i<n/\φ i=true:=by simp[sel]
def kz(φ:Nat->Bool)(n:Nat):(sel φ n).Nodup:=List.nodup_range.sublist List.filter_sublist
def FO{φ ψ:Nat->Bool}{n:Nat}(h:∀i,i<n->φ i=ψ i):sel φ n=sel ψ n:=by grind[sel,List.filter_congr]
def ug{φ ψ:Nat->Bool}:∀{n:Nat},(∀i,i<n->φ i=true->ψ i=true)->(sel φ n).length<=(sel ψ n).length
 | 0,_=>by simp[sel]
 | n+1,h=>by
  have:=ug (n:=n) λi c=>h i byO;rw[dQ,dQ,as₀,as₀];have b:=h n byO;cases a:φ n with
  | false=>simp;omega
  | true=>rw[b a];simp;omega
def pr(X:Nat->K)(b:Nat)(ε:Nat->K)(l:XN):List<|K×K:=l.map λi=>(ε i*pw (X i) b,X i)
theorem DP(X:Nat->K)(b:Nat)(a:Nat->K)(l:XN):xs (pr X b a l)=l.map X:=by simp[xs,pr]
theorem yH(X:Nat->K)(b:Nat)(a:Nat->K)(l:XN):(pr X b a l).length=l.length:=by simp[pr]
theorem PZ(X:Nat->K)(b:Nat)(a:Nat->K)(i k:Nat):gs (pr X b a [i]) k=a i*pw (X i) (b+k):=by show a i*pw (X i) b*pw (X i) k+0=_;rw[add_zero,mul_assoc,<-iB]
theorem th(X:Nat->K)(b:Nat)(a:Nat->K)(l:XN)(i k:Nat):gs (pr X b a<|l++[i]) k=gs (pr X b a l) k+a i*pw (X i) (b+k):=by
 have:pr X b a (l++[i])=pr X b a l++pr X b a [i]:=by simp[pr]
 rw[this,xZ,PZ]
theorem D5{X:Nat->K}{b:Nat}{a:Nat->K}{φ ψ:Nat->Bool}:∀{n:Nat},(∀i,i<n->φ i=false->ψ i=false->a i=0)->(∀i,i<n->φ i=true->ψ i=false)->∀k,sm n (λi=>a i*pw (X i) (b+k))=gs (pr X b a (sel φ n)++pr X b a (sel ψ n)) k
 | 0,_,_,_=>rfl
 | n+1,h,e,k=>by
  rw[xZ,cM,D5 (λi f=>h i byO) λi f=>e i byO,xZ,dQ,dQ];cases c:φ n with
  | true=>
   rw[if_pos rfl,th,e n byO c,if_neg Wc,List.append_nil];exact(show(((gs (pr X b a<|sel φ n) k)+(gs (pr X b a<|sel ψ n) k))+(a n*pw (X n) (b+k)))=(((gs (pr X b a<|sel φ n) k)+(a n*pw (X n) (b+k)))+(gs (pr X b a<|sel ψ n) k)) from cD [(gs (pr X b a<|sel φ n) k),(gs (pr X b a<|sel ψ n) k),(a n*pw (X n) (b+k))] (.add (.add (.v 0)<|.v 1)<|.v 2) (.add (.add (.v 0)<|.v 2)<|.v 1) rfl)
  | false=>
   rw[if_neg Wc,List.append_nil];cases d:ψ n with
   | true=>rw[if_pos rfl,th,add_assoc]
   | false=>rw[if_neg Wc,List.append_nil,h n byO c d,zero_mul,add_zero]
def gam(X:Nat->K)(er:Nat->Bool):Nat->Ser K
 | 0=>s1
 | i+1=>if er i=true then cv (lin<|X i) (gam X er i) else gam X er i
theorem xY(X:Nat->K)(er:Nat->Bool):∀n,gam X er n=aY ((sel er n).map X)
 | 0=>rfl
 | n+1=>by
  rw[gam,dQ,xY X er n];cases h:er n with
  | true=>rw[if_pos rfl,if_pos rfl,List.map_append,List.map_singleton,gg]
  | false=>rw[if_neg Wc,if_neg Wc,List.append_nil]
def isR(X:Nat->K)(er:Nat->Bool)(lam:List K)(i:Nat):Bool:=!er i&&decide (hor lam (inv<|X i)=0)
def bz(X:Nat->K)(er:Nat->Bool)(lam:List K)(i:Nat):Bool:=er i || isR X er lam i
def ri(X:Nat->K)(b r:Nat)(S:Ser K)(P:XN)(i:Nat):K:=
 hor (tab r<|cv S<|aY<|P.map X) (inv<|X i)*inv (pw (X i) b*pv (aY<|(P.filter λk=>decide<|k≠i).map X) (P.length-1) (inv<|X i))
structure Places (X:Nat->K)(n:Nat):Prop where
 ne:∀i,i<n->X i≠0
 inj:∀i j,i<n->j<n->X i=X j->i=j
theorem Places.nodup{X:Nat->K}{n:Nat}(h:Places X n){l:XN}(j:l.Nodup)(f:∀i ∈ l,i<n):(l.map X).Nodup:=by rw[List.nodup_iff_pairwise_ne,List.pairwise_map];refine List.Pairwise.imp_of_mem ?_<|List.nodup_iff_pairwise_ne.1 j;intro a b g c d e;exact d<|h.inj a b (f a g) (f b c) e
theorem zf{X:Nat->K}{n:Nat}(e:Places X n){er:Nat->Bool}{lam:List K}(k:co lam 0=1)(j:(sel (isR X er lam) n).length=lam.length-1):co lam=aY ((sel (isR X er lam) n).map X):=by
 have f:∀i ∈ sel (isR X er lam) n,i<n:=λi a=>(fI.1 a).1;have l:=e.nodup (kz (isR X er lam) n) f;have g:=SK lam;have⟨q,m,d⟩:=ng ((sel (isR X er lam) n).map X) ((sel (isR X er lam) n).map λi=>inv<|X i) (co lam) 0 Wc l (λi h p=>by
   rw[List.getElem_map,List.getElem_map];exact iY<|e.ne _<|f _<|List.getElem_mem _) (by rw[ay₀,Nat.add_zero,j];exact g) (λx o=>by
   obtain⟨i,a,rfl⟩:=List.mem_map.1 o;rw[ay₀,Nat.add_zero,j,<-P1 g];have:=(fI.1 a).2;simp[isR,ac₀,af₀]at this;exact this.2)
 have b:q 0=1:=by rwa [d,ry,km,one_mul]at k
 have c:q=s1:=by
  funext i;unfold s1;split
  next h=>rw[h];exact b
  .exact m i byO
 rw[d,c,dr,ji]
def wz(S Γ:Ser K)(s:Nat):Ser K:=λk=>cv S Γ<|s+k
def Lw{X:Nat->K}{n r b:Nat}(s:Places X n){er:Nat->Bool}{S:Ser K}{lam:List K}(o:co lam=(Reg.run (wz S (aY<|(sel er n).map X) (sel er n).length)<|r-(sel er n).length).C)
  (G:(sel (isR X er lam) n).length=lam.length-1) (B:2*(sel (isR X er lam) n).length+(sel er n).length<=r) (g:Nat->K) (z:∀i,i<n->bz X er lam i=false->g i=0) (F:∀k,k<r->S k=sm n λi=>g i*pw (X i) (b+k)) :
  (Reg.run (wz S (aY<|(sel er n).map X) (sel er n).length)<|r-(sel er n).length).L=(sel (isR X er lam) n).length:=by
 have v:co lam 0=1:=by rw[o];exact(iy _ _).gen.one
 have y:=zf s v G;generalize f:(λi=>!er i&&decide (g i≠0))=φ;have t:∀i,i<n->φ i=true->isR X er lam i=true:=by
  intro i c h;rw[<-f]at h;simp[ac₀,Bool.not_eq_true',af₀]at h;cases u:bz X er lam i with
  | false=>exact absurd (z i c u) h.2
  | true=>
   unfold bz at u;rw[h.1,Bool.false_or]at u;exact u
 have M:=ug t;have w:∀k,k<r->S k=gs (pr X b g (sel er n)++pr X b g (sel φ n)) k:=by
  intro k J;rw[F k J];refine D5 (λi c v l=>?_) (λi c h=>?_) k
  .rw[<-f]at l
   simp only[v,Bool.not_false,Bool.true_and,ai₀]at l;exact Classical.not_not.1 l
  .rw[<-f];simp[h]
 have d:=LC (pr X b g<|sel er n) (pr X b g<|sel φ n) w (by
   intro a q;rcases List.mem_append.1 q with q|q
   .obtain⟨i,c,rfl⟩:=List.mem_map.1 q
    exact s.ne i (fI.1 c).1
   .obtain⟨i,c,rfl⟩:=List.mem_map.1 q
    exact s.ne i (fI.1 c).1) (by
   intro a q;obtain⟨i,c,rfl⟩:=List.mem_map.1 q;have l:=fI.1 c;rw[<-f]at l;simp[ac₀,af₀]at l;exact mul_ne_zero l.2.2<|cN (s.ne i l.1) _) (by
   have e:xs (pr X b g (sel er n)++pr X b g (sel φ n))=(sel er n++sel φ n).map X:=by rw[List.map_append,<-DP X b g,<-DP X b g];exact List.map_append
   rw[e];refine s.nodup (List.nodup_append.2 ⟨kz _ _,kz _ _,?_⟩) λi c=>?_
   .intro i c j I D
    have l:=(fI.1 c).2;have A:=(fI.1 I).2;rw[<-f,<-D]at A;simp[l]at A
   .rcases List.mem_append.1 c with h|h
    .exact(fI.1 h).1
    .exact(fI.1 h).1) (by rw[yH,yH];omega)
 rw[yH,yH,DP,DP]at d;have E:co lam=aY ((sel φ n).map X):=by rw[o];exact d.1
 have p:=uB ((sel (isR X er lam) n).map X) (by
  intro x N;obtain⟨i,c,rfl⟩:=List.mem_map.1 N;exact s.ne i (fI.1 c).1)
 rw[<-y,E,ay₀]at p;have m:=ec<|(sel φ n).map X;rw[ay₀]at m;have H:(sel (isR X er lam) n).length<=(sel φ n).length:=by
  apply Decidable.byContradiction;intro O;exact p<|m _ byO
 have:=d.2;unfold wz;omega
theorem vj(X:Nat->K):∀(P:XN) (j:Nat),(P.map X).eraseIdx j=(P.eraseIdx j).map X
 | [],_=>rfl
 | _::_,0=>rfl
 | a::P,j+1=>by
  show X a::(P.map X).eraseIdx j=X a::(P.eraseIdx j).map X;rw[vj X P j]
theorem erase_filter{P:XN}(f:P.Nodup){j:Nat}(d:j<P.length)(X:Nat->K):(P.map X).eraseIdx j=(P.filter λk=>decide<|k≠P[j]).map X:=by
 rw[vj];congr 1
 induction P generalizing j with
 | nil=>simp at d
 | cons a P h=>
  have b:=(List.nodup_cons.1 f).1;cases j with
  | zero=>
   show P=List.filter (λk=>decide<|k≠a) (a::P);rw[List.filter_cons_of_neg Wc]
   symm
   rw[List.filter_eq_self];intro k g;simp;intro e;exact b<|e▸g
  | succ j=>
   have c:j<P.length:=XL
   show a::P.eraseIdx j=List.filter (λk=>decide<|k≠P[j]) (a::P);rw[List.filter_cons_of_pos (by simp;intro e;exact b<|e▸List.getElem_mem _),h (List.nodup_cons.1 f).2 c]
end
section
variable {K:Type}[Fd K]
def plc(g:K)(n i:Nat):K:=pw g<|n-1-i
def iR{g:K}{n m:Nat}(a:g≠0)(h:Ord g m)(d:n<=m):Places (plc g n) n where
 ne:=λi _=>cN a _
 inj:=λi j b c e=>by
  have:=Bd a h (n-1-i) (n-1-j) byO byO e;omega
theorem zW(g:K)(w:List K)(m:Nat):dK w (pw g m)=sm w.length λi=>co w i*pw (plc g w.length i) m:=by rw[Kk];refine bW λi _=>?_;unfold plc;rw[<-eG,<-eG,bb₀]
def syS(g:K)(r b:Nat)(w:List K):Ser K:=co<|tab r λi=>dK w<|pw g<|b+i
theorem RI{g:K}{r b k:Nat}(w:List K)(a:k<r):syS g r b w k=dK w (pw g<|b+k):=by unfold syS;rw[dm,if_pos a]
def sC(er:Nat->Bool)(n:Nat):Nat:=(sel er n).length
def jI(X:Nat->K)(er:Nat->Bool)(n r:Nat)(S:Ser K):List K:=(tab r<|cv S<|gam X er n).drop<|sC er n
theorem KH(l:List K)(s k:Nat):co (l.drop s) k=co l (s+k):=by unfold co;rw[au₀,au₀,List.getElem?_drop]
theorem jc(X:Nat->K)(er:Nat->Bool)(n r:Nat)(S:Ser K):(jI X er n r S).length=r-sC er n:=by unfold jI;rw[List.length_drop,aJ]
theorem A9(X:Nat->K)(er:Nat->Bool)(n r:Nat)(S:Ser K):Reg.run (co<|jI X er n r S) (jI X er n r S).length=Reg.run (wz S (aY<|(sel er n).map X) (sel er n).length) (r-(sel er n).length):=by rw[jc];refine wh λk a=>?_;unfold jI wz;rw[KH,dm,if_pos (by unfold sC at a ⊢;omega),xY];rfl
def Kz(s:List K):List K:=trim<|tab (bml (co s) s.length).1 (Reg.run (co s) s.length).C
def ck(X:Nat->K)(er:Nat->Bool)(n r:Nat)(S:Ser K):List K:=Kz<|jI X er n r S
theorem Gc(X:Nat->K)(er:Nat->Bool)(n r:Nat)(S:Ser K):co (ck X er n r S)=(Reg.run (wz S (aY<|(sel er n).map X) (sel er n).length)<|r-(sel er n).length).C:=by
 funext i;unfold ck Kz;rw[CU,dm,<-A9];split
 .rfl
 .exact((qA _ _).1 i byO).symm
theorem xh(X:Nat->K)(er:Nat->Bool)(n r:Nat)(S:Ser K):co (ck X er n r S) 0=1:=by rw[Gc];exact(iy _ _).gen.one
def E4(X:Nat->K)(er:Nat->Bool)(n r:Nat)(S:Ser K):Nat:=(Reg.run (co<|jI X er n r S) (jI X er n r S).length).L
def gO(g:K)(r b:Nat)(w:List K)(er:Nat->Bool):List K:=
 let X:=plc g w.length
 let S:=syS g r b w
 let lam:=ck X er w.length r S
 tab w.length λi=>if bz X er lam i=true then co w i-ri X b r S (sel (bz X er lam) w.length) i else co w i
theorem ki(g:K)(r b:Nat)(w:List K)(er:Nat->Bool):(gO g r b w er).length=w.length:=aJ _ _
def vE(g:K)(r b:Nat)(w:List K):Prop:=∀k,k<r->dK w (pw g<|b+k)=0
structure DecOK (g:K)(r b:Nat)(w:List K)(er:Nat->Bool):Prop where
 few:sC er w.length<=r
 cap:2*((ck (plc g w.length) er w.length r<|syS g r b w).length-1)+sC er w.length<=r
 num:(sel (isR (plc g w.length) er<|ck (plc g w.length) er w.length r<|syS g r b w) w.length).length=(ck (plc g w.length) er w.length r<|syS g r b w).length-1
 cw:vE g r b<|gO g r b w er
theorem EP(g:K){w c:List K}(a:c.length=w.length)(m:Nat):sm w.length (λi=>(co w i-co c i)*pw (plc g w.length i) m)=dK w (pw g m)-dK c (pw g m):=by rw[zW,zW,a,sub_def,Bp,<-qe];refine bW λi _=>?_;exact(show(((co w i)-(co c i))*(pw (plc g w.length i) m))=(((co w i)*(pw (plc g w.length i) m))+(-((co c i)*(pw (plc g w.length i) m)))) from cD [(co w i),(co c i),(pw (plc g w.length i) m)] (.mul (.add (.v 0)<|.neg<|.v 1)<|.v 2) (.add (.mul (.v 0)<|.v 2)<|.neg<|.mul (.v 1)<|.v 2) rfl)
theorem DecOK.reg{g:K}{r b m:Nat}{w:List K}{er:Nat->Bool}(e:g≠0)(l:Ord g m)(j:w.length<=m)(h:DecOK g r b w er):E4 (plc g w.length) er w.length r (syS g r b w)=(sel (isR (plc g w.length) er<|ck (plc g w.length) er w.length r<|syS g r b w) w.length).length:=by
 unfold E4;rw[A9];have a:=h.cap;rw[<-h.num]at a;refine Lw (b:=b) (iR e l j) (Gc _ _ _ _ _) h.num a (λi=>co w i-co (gO g r b w er) i) (λi f d=>?_) λk c=>?_
 .show co w i-co (gO g r b w er) i=0
  unfold gO;rw[dm,if_pos f,if_neg (by rw[d];simp),sub_self]
 .rw[EP g<|ki g r b w er,h.cw k c,RI w c]
  exact(show(dK w<|pw g<|b+k)=((dK w<|pw g<|b+k)-0) from cD [(dK w<|pw g<|b+k)] (.v 0) (.add (.v 0)<|.neg .zero) rfl)
def zh{X:Nat->K}{φ ψ:Nat->Bool}:∀{n:Nat},(∀i,i<n->ψ i=true->φ i=false)->cv (aY<|(sel φ n).map X) (aY<|(sel ψ n).map X)=aY ((sel (λi=>φ i || ψ i) n).map X)
 | 0,_=>ji _
 | n+1,h=>by
  have b:=zh (X:=X) (φ:=φ) (ψ:=ψ) (n:=n) λi d=>h i byO;rw[dQ,dQ,dQ,List.map_append,List.map_append,List.map_append];cases a:ψ n with
  | true=>
   rw[h n byO a];simp[Bool.false_or,if_true,ah₀,if_false,al₀,List.append_nil,ag₀];rw[gg,gg,<-b,<-dq,<-dq,dr _<|lin<|X n]
  | false=>
   cases c:φ n with
   | true=>
    simp[Bool.or_false,if_true,ah₀,if_false,al₀,List.append_nil,ag₀];rw[gg,gg,<-b,dq]
   | false=>
    simp[Bool.or_false,ah₀,if_false,al₀,List.append_nil];exact b
def Dy{X:Nat->K}{n r:Nat}(b:Places X n){er:Nat->Bool}{S:Ser K}(a:(sel (isR X er<|ck X er n r S) n).length=(ck X er n r S).length-1):cv (gam X er n) (co<|ck X er n r S)=aY ((sel (bz X er<|ck X er n r S) n).map X):=by rw[xY,zf b (xh _ _ _ _ _) a];refine zh λi _ h=>?_;unfold isR at h;simp[ac₀,Bool.not_eq_true']at h;exact h.1
def GL{X:Nat->K}{n:Nat}{er:Nat->Bool}{lam:List K}:(sel (bz X er lam) n).length=(sel er n).length+(sel (isR X er lam) n).length:=by
 induction n with
 | zero=>rfl
 | succ n a=>
  rw[dQ,dQ,dQ,as₀,as₀,as₀,a];unfold bz isR;cases er n<;>cases decide (hor lam (inv<|X n)=0)<;>simp<;>omega
def AZ{X:Nat->K}{n:Nat}(p:Places X n){P:XN}(o:P.Nodup)(g:∀i ∈ P,i<n){i:Nat}(h:i ∈ P):pv (der<|aY<|P.map X) (P.length-1) (inv<|X i)=- (X i*pv (aY<|(P.filter λk=>decide<|k≠i).map X) (P.length-1) (inv<|X i))/\pv (aY<|(P.filter λk=>decide<|k≠i).map X) (P.length-1) (inv<|X i)≠0:=by
 have⟨j,f,a⟩:=List.getElem_of_mem h;have c:=p.ne i<|g i h;have m:j<(P.map X).length:=Yk
 have q:=HJ (l:=P.map X) (j:=j) m (x:=inv<|X i) (by rw[List.getElem_map,a];exact iY c);rw[List.getElem_map,erase_filter o f,a,ay₀]at q;refine⟨q,?_⟩;have b:((P.filter λk=>decide<|k≠i).map X).length=P.length-1:=by
  have:=congrArg List.length<|erase_filter o f X;rw[List.length_eraseIdx_of_lt Yk,ay₀]at this;rw[<-a];exact this.symm
 rw[<-b];refine ju (X:=X i) (λs=>?_)<|iY c;have⟨k,r,e⟩:=List.mem_map.1 s;have d:=List.mem_filter.1 r;have:=p.inj k i (g k d.1) (g i h) e;simp[this]at d
def Up{g:K}{m n b r i:Nat}(w:g≠0)(j:Ord g m)(x:n<=m){S:Ser K}{P:XN}(u:P.Nodup)(p:∀i ∈ P,i<n)(q:i ∈ P) :
  pw g ((n-1-i)*(b+(m-1)))*pv (der<|aY<|P.map<|plc g n) (P.length-1) (inv<|plc g n i)≠0 /\
  hor (tab r<|cv S<|aY<|P.map<|plc g n) (inv<|plc g n i)*inv (pw g ((n-1-i)*(b+(m-1)))*pv (der<|aY<|P.map<|plc g n) (P.length-1) (inv<|plc g n i))=- ri (plc g n) b r S P i:=by
 have o:=iR w j x;have⟨s,t⟩:=AZ o u p q;have d:=o.ne i<|p i q;have l:pw (plc g n i) (m-1)*plc g n i=1:=by
  rw[<-fJ,Nat.sub_add_cancel j.1];unfold plc;rw[<-eG,bb₀,eG,j.2.1,jF]
 have a:pw g ((n-1-i)*(b+(m-1)))=pw (plc g n i) b*pw (plc g n i) (m-1):=by
  rw[eG,iB];rfl
 have f:pw g ((n-1-i)*(b+(m-1)))*pv (der<|aY<|P.map<|plc g n) (P.length-1) (inv<|plc g n i)=- (pw (plc g n i) b*pv (aY<|(P.filter λk=>decide<|k≠i).map<|plc g n) (P.length-1) (inv<|plc g n i)):=by
  rw[s,a];generalize pv (aY<|(P.filter λk=>decide<|k≠i).map<|plc g n) (P.length-1) (inv<|plc g n i)=D;have e:pw (plc g n i) b*pw (plc g n i) (m-1)*-(plc g n i*D)=-(pw (plc g n i) b*D*(pw (plc g n i) (m-1)*plc g n i)):=(show(((pw (plc g n i) b)*(pw (plc g n i)<|m-1))*(-((plc g n i)*(D))))=(-(((pw (plc g n i) b)*(D))*((pw (plc g n i)<|m-1)*(plc g n i)))) from cD [(pw (plc g n i) b),(pw (plc g n i)<|m-1),(plc g n i),(D)] (.mul (.mul (.v 0)<|.v 1)<|.neg<|.mul (.v 2)<|.v 3) (.neg<|.mul (.mul (.v 0)<|.v 3)<|.mul (.v 1)<|.v 2) rfl);rw[e,l,mul_one]
 rw[f];unfold ri;have c:=mul_ne_zero (cN d b) t;generalize pw (plc g n i) b*pv (aY<|(P.filter λk=>decide<|k≠i).map<|plc g n) (P.length-1) (inv<|plc g n i)=E at *;refine⟨neg_ne_zero c,?_⟩;have h:inv (-E)=- inv E:=nT (by rw[neg_mul,mul_neg,neg_neg,iY c]);rw[h,mul_neg]
def BL{M:Nat}(F:Ser K)(x:K)(h:1<=M):hor (tab M F) x=pv F (M-1) x:=by rw[x8,aJ];unfold pv;rw[Nat.sub_add_cancel h];refine bW λi a=>?_;rw[dm,if_pos a]
end
def f7:FD:=⟨7,0⟩
def pr7:Pr 7:=⟨Wd,λd a b=>by
 have:d=2\/d=3\/d=4\/d=5\/d=6:=byO;rcases this with rfl|rfl|rfl|rfl|rfl<;>decide⟩
instance ok7:OkC f7:=⟨.inl ⟨rfl,Wd,Wd,pr7⟩⟩
def e7(n:Nat)(h:n<7:=by decide):El f7:=⟨n,h⟩
end Go.RS
