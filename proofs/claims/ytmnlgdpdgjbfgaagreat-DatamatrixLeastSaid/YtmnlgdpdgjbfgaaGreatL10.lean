/- Lemmas. -/
import Derived.Test.YtmnlgdpdgjbfgaaGreatL1
import Derived.KernelRfl
set_option linter.all false
namespace Go.RS
class Fd (K:Type) where
 add:K->K->K
 mul:K->K->K
 neg:K->K
 zero:K
 one:K
 inv:K->K
 add_assoc':∀a b c,add (add a b) c=add a (add b c)
 add_comm':∀a b,add a b=add b a
 add_zero':∀a,add a zero=a
 add_neg':∀a,add a (neg a)=zero
 mul_assoc':∀a b c,mul (mul a b) c=mul a (mul b c)
 mul_comm':∀a b,mul a b=mul b a
 mul_one':∀a,mul a one=a
 mul_add':∀a b c,mul a (add b c)=add (mul a b) (mul a c)
 mul_inv':∀a,a≠zero->mul a (inv a)=one
 one_ne':one≠zero
 dec:DecidableEq K
section
variable {K:Type}[Fd K]
instance (priority:=50):Add K:=⟨Fd.add⟩
instance (priority:=50):Mul K:=⟨Fd.mul⟩
instance (priority:=50):Neg K:=⟨Fd.neg⟩
instance (priority:=50):Sub K:=⟨fun a b=>Fd.add a (Fd.neg b)⟩
instance (priority:=50):OfNat K 0:=⟨Fd.zero⟩
instance (priority:=50):OfNat K 1:=⟨Fd.one⟩
instance (priority:=50):DecidableEq K:=Fd.dec
def inv(a:K):K:=Fd.inv a
theorem add_assoc(a b c:K):a+b+c=a+(b+c):=Fd.add_assoc' a b c
theorem add_comm(a b:K):a+b=b+a:=Fd.add_comm' a b
theorem add_zero(a:K):a+0=a:=Fd.add_zero' a
theorem zero_add(a:K):0+a=a:=by rw[add_comm,add_zero]
theorem add_neg(a:K):a+-a=0:=Fd.add_neg' a
theorem ni(a:K):-a+a=0:=by rw[add_comm,add_neg]
theorem sub_def(a b:K):a-b=a+-b:=rfl
theorem mul_assoc(a b c:K):a*b*c=a*(b*c):=Fd.mul_assoc' a b c
theorem mul_comm(a b:K):a*b=b*a:=Fd.mul_comm' a b
theorem mul_one(a:K):a*1=a:=Fd.mul_one' a
theorem one_mul(a:K):1*a=a:=by rw[mul_comm,mul_one]
theorem mul_add(a b c:K):a*(b+c)=a*b+a*c:=Fd.mul_add' a b c
theorem add_mul(a b c:K):(a+b)*c=a*c+b*c:=by rw[mul_comm,mul_add,mul_comm c a,mul_comm c b]
theorem AM{a:K}(h:a≠0):a*inv a=1:=Fd.mul_inv' a h
theorem inv_mul{a:K}(h:a≠0):inv a*a=1:=by rw[mul_comm,AM h]
theorem rP:(1:K)≠0:=Fd.one_ne'
theorem add_left_cancel{a b c:K}(h:a+b=a+c):b=c:=by
 have:-a+(a+b)=-a+(a+c):=by rw[h]
 rwa [<-add_assoc,<-add_assoc,ni,zero_add,zero_add]at this
theorem mul_zero(a:K):a*0=0:=by
 have:a*0+a*0=a*0+0:=by rw[<-mul_add,add_zero,add_zero]
 exact add_left_cancel this
theorem zero_mul(a:K):0*a=0:=by rw[mul_comm,mul_zero]
theorem jf{a b:K}(h:a+b=0):-a=b:=by
 apply add_left_cancel (a:=a);rw[add_neg,h]
theorem neg_mul(a b:K):-a*b=-(a*b):=by
 symm;apply jf;rw[<-add_mul,add_neg,zero_mul]
theorem mul_neg(a b:K):a*-b=-(a*b):=by rw[mul_comm,neg_mul,mul_comm]
theorem neg_zero:-(0:K)=0:=jf (add_zero 0)
theorem neg_add(a b:K):-(a+b)=-a+-b:=by
 apply jf;rw[add_assoc,<-add_assoc b,add_comm b,add_assoc (-a),add_neg,add_zero,add_neg]
theorem sub_self(a:K):a-a=0:=add_neg a
theorem sub_eq_zero{a b:K}(h:a-b=0):a=b:=by
 have:a-b+b=0+b:=by rw[h]
 rwa [sub_def,add_assoc,ni,add_zero,zero_add]at this
theorem mul_eq_zero{a b:K}(h:a*b=0):a=0\/b=0:=by
 by_cases ha:a=0
 ·exact .inl ha
 ·right
  have:inv a*(a*b)=inv a*0:=by rw[h]
  rwa [<-mul_assoc,inv_mul ha,one_mul,mul_zero]at this
theorem mul_ne_zero{a b:K}(ha:a≠0)(hb:b≠0):a*b≠0:=fun h=>(mul_eq_zero h).elim ha hb
theorem mul_left_cancel{a b c:K}(ha:a≠0)(h:a*b=a*c):b=c:=by
 have:inv a*(a*b)=inv a*(a*c):=by rw[h]
 rwa [<-mul_assoc,<-mul_assoc,inv_mul ha,one_mul,one_mul]at this
theorem tP{a b:K}(h:a*b=1):inv a=b:=by
 have ha:a≠0:=by rintro rfl;rw[zero_mul]at h;exact rP h.symm
 apply mul_left_cancel ha;rw[AM ha,h]
theorem inv_inv{a:K}(ha:a≠0):inv (inv a)=a:=tP (inv_mul ha)
def pw(a:K):Nat->K
 | 0=>1
 | n+1=>pw a n*a
theorem gD(a:K):pw a 0=1:=rfl
theorem gC(a:K)(n:Nat):pw a (n+1)=pw a n*a:=rfl
theorem vC(a:K):pw a 1=a:=by rw[gC,gD,one_mul]
theorem gU(a:K)(m:Nat):∀n,pw a (m+n)=pw a m*pw a n
 | 0=>by rw[gD,mul_one];rfl
 | n+1=>by rw[<-Nat.add_assoc,gC,gU a m n,gC,mul_assoc]
theorem Eo(a:K)(m:Nat):∀n,pw a (m*n)=pw (pw a m) n
 | 0=>rfl
 | n+1=>by rw[Nat.mul_succ,gU,Eo a m n,gC]
theorem yk:∀n,pw (1:K) n=1
 | 0=>rfl
 | n+1=>by rw[gC,yk n,mul_one]
theorem ER(a b:K):∀n,pw (a*b) n=pw a n*pw b n
 | 0=>by rw[gD,gD,gD,mul_one]
 | n+1=>by rw[gC,gC,gC,ER a b n,mul_assoc,mul_assoc,<-mul_assoc (pw b n) a b,mul_comm (pw b n) a,mul_assoc a]
theorem dM{a:K}(h:a≠0):∀n,pw a n≠0
 | 0=>rP
 | n+1=>mul_ne_zero (dM h n) h
end
inductive RE where
 | v (n:Nat)
 | zero
 | one
 | add (a b:RE)
 | mul (a b:RE)
 | neg (a:RE)
abbrev mE:=List Nat
abbrev Pol:=List (Int×mE)
def Bd:mE->mE->Ordering
 | [],[]=>.eq
 | [],_=>.lt
 | _,[]=>.gt
 | a::x,b::y=>if a<b then .lt else if b<a then .gt else Bd x y
def Bf(a:Nat):mE->mE
 | []=>[a]
 | b::y=>if a<=b then a::b::y else b::Bf a y
def EL:mE->mE->mE
 | [],y=>y
 | a::x,y=>Bf a (EL x y)
def pS(c:Int)(m:mE):Pol->Pol
 | []=>if c=0 then[] else[(c,m)]
 | (d,n)::r=>match Bd m n with
  | .lt=>if c=0 then(d,n)::r else(c,m)::(d,n)::r
  | .eq=>if c+d=0 then r else(c+d,n)::r
  | .gt=>(d,n)::pS c m r
def Bo:Pol->Pol->Pol
 | [],q=>q
 | (c,m)::p,q=>pS c m (Bo p q)
def tg(c:Int)(m:mE):Pol->Pol
 | []=>[]
 | (d,n)::r=>pS (c*d) (EL m n) (tg c m r)
def Em:Pol->Pol->Pol
 | [],_=>[]
 | (c,m)::p,q=>Bo (tg c m q) (Em p q)
def RE.norm:RE->Pol
 | .v n=>[(1,[n])]
 | .zero=>[]
 | .one=>[(1,[])]
 | .add a b=>Bo a.norm b.norm
 | .mul a b=>Em a.norm b.norm
 | .neg a=>tg (-1) [] a.norm
section
variable {K:Type}[Fd K]
def RE.den(env:List K):RE->K
 | .v n=>env.getD n 0
 | .zero=>0
 | .one=>1
 | .add a b=>a.den env+b.den env
 | .mul a b=>a.den env*b.den env
 | .neg a=>- a.den env
def nsm(a:K):Nat->K
 | 0=>0
 | n+1=>nsm a n+a
def ism(a:K):Int->K
 | .ofNat n=>nsm a n
 | .negSucc n=>- nsm a (n+1)
theorem nj(a:K)(m:Nat):∀n,nsm a (m+n)=nsm a m+nsm a n
 | 0=>by rw[show nsm a 0=0 from rfl,add_zero];rfl
 | n+1=>by rw[<-Nat.add_assoc,show nsm a (m+n+1)=nsm a (m+n)+a from rfl,nj a m n,add_assoc];rfl
theorem AB(a:K)(m n:Nat):ism a (Int.subNatNat m n)=nsm a m+- nsm a n:=by
 rcases Nat.lt_or_ge m n with h|h
 ·obtain⟨k,rfl⟩:∃k,n=m+k+1:=⟨n-m-1,byO⟩
  rw[Int.subNatNat_of_lt byO,show m+k+1-m=k+1 by omega];show-nsm a (k+1)=_;rw[Nat.add_assoc,nj a m (k+1),neg_add,<-add_assoc,add_neg,zero_add]
 ·obtain⟨k,rfl⟩:∃k,m=n+k:=⟨m-n,byO⟩
  rw[Int.subNatNat_of_le byO,show n+k-n=k by omega];show nsm a k=_;rw[nj,add_comm (nsm a n),add_assoc,add_neg,add_zero]
theorem u5(a:K)(m n:Int):ism a (m+n)=ism a m+ism a n:=by
 cases m with
 | ofNat m=>
  cases n with
  | ofNat n=>exact nj a m n
  | negSucc n=>exact AB a m (n+1)
 | negSucc m=>
  cases n with
  | ofNat n=>rw[add_comm];exact AB a n (m+1)
  | negSucc n=>
   show-nsm a (m+n+1+1)=- nsm a (m+1)+- nsm a (n+1);rw[<-neg_add,<-nj,show m+n+1+1=m+1+(n+1) by omega]
theorem kx(a:K):ism a 0=0:=rfl
theorem u7(a:K):ism a 1=a:=zero_add a
theorem AA(a:K)(n:Int):ism a (-n)=- ism a n:=by
 symm;apply jf
 rw[<-u5,show n+-n=0 by omega,kx]
theorem uh(a b:K):∀n,nsm (a*b) n=nsm a n*b
 | 0=>by rw[show nsm (a*b) 0=0 from rfl,show nsm a 0=0 from rfl,zero_mul]
 | n+1=>by rw[show nsm (a*b) (n+1)=nsm (a*b) n+a*b from rfl,uh a b n,<-add_mul];rfl
theorem zy(a b:K)(n:Int):ism (a*b) n=ism a n*b:=by
 cases n with
 | ofNat n=>exact uh a b n
 | negSucc n=>show-nsm (a*b) (n+1)=- nsm a (n+1)*b;rw[uh,neg_mul]
theorem kv(a:K)(m:Int):∀n:Nat,ism a (m*n)=nsm (ism a m) n
 | 0=>by rw[show m*((0:Nat):Int)=0 by simp,kx];rfl
 | n+1=>by rw[show m*((n+1:Nat):Int)=m*n+m by rw[ap₀,Int.mul_add];simp,u5,kv a m n];rfl
theorem HE(a:K)(m n:Int):ism a (m*n)=ism (ism a m) n:=by
 cases n with
 | ofNat n=>exact kv a m n
 | negSucc n=>
  rw[show m*Int.negSucc n=-(m*((n+1:Nat):Int)) by rw[<-Int.mul_neg];rfl,AA,kv];rfl
theorem u6(a b:K)(m n:Int):ism (a*b) (m*n)=ism a m*ism b n:=by
 rw[HE,zy,mul_comm (ism a m),zy,mul_comm]
def mm(env:List K):mE->K
 | []=>1
 | a::x=>env.getD a 0*mm env x
def kL(env:List K):Pol->K
 | []=>0
 | (c,m)::r=>ism (mm env m) c+kL env r
theorem AL:∀(x y:mE),Bd x y=.eq->x=y
 | [],[],_=>rfl
 | [],_::_,h=>by simp[Bd]at h
 | _::_,[],h=>by simp[Bd]at h
 | a::x,b::y,h=>by
  simp only[Bd]at h;split at h
  ·cases h
  ·split at h
   ·cases h
   ·rw[AL x y h,show a=b by omega]
theorem wa(env:List K)(a:Nat):∀(y:mE),mm env (Bf a y)=env.getD a 0*mm env y
 | []=>rfl
 | b::y=>by
  rw[Bf];split
  ·rfl
  ·rw[show mm env (b::Bf a y)=env.getD b 0*mm env (Bf a y) from rfl,wa env a y,<-mul_assoc,mul_comm (env.getD b 0),mul_assoc];rfl
theorem wb(env:List K):∀(x y:mE),mm env (EL x y)=mm env x*mm env y
 | [],y=>by rw[EL,show mm env []=1 from rfl,one_mul]
 | a::x,y=>by rw[EL,wa,wb env x y,<-mul_assoc];rfl
theorem oi(env:List K)(c:Int)(m:mE):∀p,kL env (pS c m p)=ism (mm env m) c+kL env p
 | []=>by
  rw[pS];split
  ·rename_i h;subst h;rw[kx,zero_add]
  ·rfl
 | (d,n)::r=>by
  rw[pS];split
  ·split
   ·rename_i h;subst h;rw[kx,zero_add]
   ·rfl
  ·rename_i h
   have:=AL _ _ h;subst this;rw[show kL env ((d,m)::r)=ism (mm env m) d+kL env r from rfl,<-add_assoc,<-u5];split
   ·rename_i h;rw[h,kx,zero_add]
   ·rfl
  ·rw[show kL env ((d,n)::pS c m r)=ism (mm env n) d+kL env (pS c m r) from rfl,oi env c m r,<-add_assoc,add_comm (ism (mm env n) d),add_assoc];rfl
theorem rS(env:List K):∀p q,kL env (Bo p q)=kL env p+kL env q
 | [],q=>by rw[Bo,show kL env []=0 from rfl,zero_add]
 | (c,m)::p,q=>by rw[Bo,oi,rS env p q,<-add_assoc];rfl
theorem oq(env:List K)(c:Int)(m:mE):∀p,kL env (tg c m p)=ism (mm env m) c*kL env p
 | []=>by rw[tg,show kL env []=0 from rfl,mul_zero]
 | (d,n)::r=>by rw[tg,oi,oq env c m r,wb,u6,<-mul_add];rfl
theorem xF(env:List K):∀p q,kL env (Em p q)=kL env p*kL env q
 | [],q=>by rw[Em,show kL env []=0 from rfl,zero_mul]
 | (c,m)::p,q=>by rw[Em,rS,oq,xF env p q,<-add_mul];rfl
theorem RE.norm_den(env:List K):∀e:RE,kL env e.norm=e.den env
 | .v n=>by
  show ism (env.getD n 0*1) 1+0=env.getD n 0;rw[add_zero,u7,mul_one]
 | .zero=>rfl
 | .one=>by
  show ism (1:K) 1+0=1;rw[add_zero,u7]
 | .add a b=>by rw[RE.norm,rS,RE.norm_den env a,RE.norm_den env b];rfl
 | .mul a b=>by rw[RE.norm,xF,RE.norm_den env a,RE.norm_den env b];rfl
 | .neg a=>by
  rw[RE.norm,oq,RE.norm_den env a];show ism (1:K) (-1)*_=- _;rw[AA,u7,neg_mul,one_mul]
def th:Pol->Pol->Bool
 | [],[]=>true
 | (c,m)::p,(d,n)::q=>c==d&&m==n&&th p q
 | _,_=>false
theorem xG:∀p q,th p q=true->p=q
 | [],[],_=>rfl
 | [],_::_,h=>by simp[th]at h
 | _::_,[],h=>by simp[th]at h
 | (c,m)::p,(d,n)::q,h=>by
  simp only[th,ac₀,beq_iff_eq]at h;rw[h.1.1,h.1.2,xG p q h.2]
theorem dV(env:List K)(a b:RE)(h:th a.norm b.norm=true):a.den env=b.den env:=by
 rw[<-RE.norm_den,<-RE.norm_den,xG _ _ h]
end
end Go.RS
namespace Go.RS
section
variable {K:Type}[Fd K]
def sm:Nat->(Nat->K)->K
 | 0,_=>0
 | n+1,f=>sm n f+f n
theorem cD(n:Nat)(f:Nat->K):sm (n+1) f=sm n f+f n:=rfl
theorem Pz(f:Nat->K):sm 0 f=0:=rfl
theorem zE(f:Nat->K):sm 1 f=f 0:=zero_add _
theorem bO{f g:Nat->K}:∀{n:Nat},(∀i,i<n->f i=g i)->sm n f=sm n g
 | 0,_=>rfl
 | n+1,h=>by rw[cD,cD,bO (fun i hi=>h i byO),h n byO]
theorem eh{f:Nat->K}:∀{n:Nat},(∀i,i<n->f i=0)->sm n f=0
 | 0,_=>rfl
 | n+1,h=>by rw[cD,eh (fun i hi=>h i byO),h n byO,add_zero]
theorem ry(f g:Nat->K):∀n,sm n (fun i=>f i+g i)=sm n f+sm n g
 | 0=>(add_zero 0).symm
 | n+1=>by
  rw[cD,cD,cD,ry f g n];exact(show(((sm n f)+(sm n g))+((f n)+(g n)))=(((sm n f)+(f n))+((sm n g)+(g n))) from dV [(sm n f),(sm n g),(f n),(g n)] (.add (.add (.v 0) (.v 1)) (.add (.v 2) (.v 3))) (.add (.add (.v 0) (.v 2)) (.add (.v 1) (.v 3))) rfl)
theorem nD(a:K)(f:Nat->K):∀n,a*sm n f=sm n (fun i=>a*f i)
 | 0=>mul_zero a
 | n+1=>by rw[cD,cD,mul_add,nD a f n]
theorem oH(a:K)(f:Nat->K)(n:Nat):sm n f*a=sm n (fun i=>f i*a):=by
 rw[mul_comm,nD];exact bO fun i _=>mul_comm _ _
theorem FU(f:Nat->K):∀n,-sm n f=sm n (fun i=>- f i)
 | 0=>neg_zero
 | n+1=>by rw[cD,cD,neg_add,FU f n]
theorem ij(f:Nat->K):∀n,sm (n+1) f=f 0+sm n (fun i=>f (i+1))
 | 0=>by rw[cD,Pz,Pz,zero_add,add_zero]
 | n+1=>by rw[cD,ij f n,cD,add_assoc]
theorem vO(f:Nat->K):∀n,sm n f=sm n (fun i=>f (n-1-i))
 | 0=>rfl
 | n+1=>by
  rw[ij (fun i=>f (n+1-1-i)),cD,vO f n,add_comm];congr 1;exact bO fun i _=>by rw[show n+1-1-(i+1)=n-1-i by omega]
theorem rz(f:Nat->K)(m:Nat):∀n,sm (m+n) f=sm m f+sm n (fun i=>f (m+i))
 | 0=>(add_zero _).symm
 | n+1=>by rw[<-Nat.add_assoc,cD,rz f m n,cD,add_assoc]
theorem pB{f:Nat->K}{k:Nat}:∀{n:Nat},k<n->(∀i,i<n->i≠k->f i=0)->sm n f=f k
 | 0,h,_=>by omega
 | n+1,h,hz=>by
  rw[cD];by_cases e:k=n
  ·subst e
   rw[eh (fun i hi=>hz i byO byO),zero_add]
  ·rw[pB byO (fun i hi=>hz i byO),hz n byO (fun h=>e h.symm),add_zero]
theorem pA{f:Nat->K}{m n:Nat}(h:m<=n)(hz:∀i,m<=i->i<n->f i=0):sm n f=sm m f:=by
 obtain⟨k,rfl⟩:∃k,n=m+k:=⟨n-m,byO⟩;rw[rz,eh (n:=k) (fun i hi=>hz _ byO byO),add_zero]
theorem zF(f:Nat->Nat->K):∀n,sm (n+1) (fun k=>sm (k+1) (fun i=>f i (k-i)))=sm (n+1) (fun i=>sm (n-i+1) (fun j=>f i j))
 | 0=>rfl
 | n+1=>by
  rw[cD,zF f n,cD (n+1) (fun i=>sm (n+1-i+1) (fun j=>f i j)),Nat.sub_self,zE];have e:sm (n+1) (fun i=>sm (n+1-i+1) (fun j=>f i j))=sm (n+1) (fun i=>sm (n-i+1) (fun j=>f i j))+sm (n+1) (fun i=>f i (n+1-i)):=by
   rw[<-ry];refine bO fun i hi=>?_;rw[show n+1-i+1=(n-i+1)+1 by omega,cD,show n-i+1=n+1-i by omega]
  rw[e,cD (n+1) (fun i=>f i (n+1-i)),Nat.sub_self,add_assoc]
abbrev Ser(K:Type):=Nat->K
def cv(p q:Ser K):Ser K:=fun n=>sm (n+1) (fun i=>p i*q (n-i))
theorem pn(p q:Ser K):cv p q=cv q p:=by
 funext n;unfold cv;rw[vO];refine bO fun i hi=>?_;rw[show n+1-1-i=n-i by omega,show n-(n-i)=i by omega,mul_comm]
theorem wC(p q r:Ser K):cv (cv p q) r=cv p (cv q r):=by
 funext n;unfold cv;have h:=zF (fun i j=>p i*q j*r (n-i-j)) n;have e1:sm (n+1) (fun k=>sm (k+1) (fun i=>p i*q (k-i))*r (n-k))=sm (n+1) (fun k=>sm (k+1) (fun i=>p i*q (k-i)*r (n-i-(k-i)))):=by
  refine bO fun k hk=>?_;rw[oH];refine bO fun i hi=>?_;rw[show n-i-(k-i)=n-k by omega]
 rw[e1,h];refine bO fun i hi=>?_;rw[nD];refine bO fun j hj=>?_;rw[mul_assoc]
theorem DN(p q r:Ser K)(n:Nat):cv (fun i=>p i+q i) r n=cv p r n+cv q r n:=by
 unfold cv;rw[<-ry];exact bO fun i _=>add_mul _ _ _
theorem DO(p q r:Ser K)(n:Nat):cv r (fun i=>p i+q i) n=cv r p n+cv r q n:=by
 unfold cv;rw[<-ry];exact bO fun i _=>mul_add _ _ _
theorem BJ(a:K)(p q:Ser K)(n:Nat):cv (fun i=>a*p i) q n=a*cv p q n:=by
 unfold cv;rw[nD];exact bO fun i _=>mul_assoc _ _ _
theorem zc(p q:Ser K):cv p q 0=p 0*q 0:=zE _
def sh(m:Nat)(p:Ser K):Ser K:=fun n=>if m<=n then p (n-m) else 0
theorem xQ{m n:Nat}(p:Ser K)(h:n<m):sh m p n=0:=by unfold sh;rw[if_neg byO]
theorem rq{m n:Nat}(p:Ser K)(h:m<=n):sh m p n=p (n-m):=by unfold sh;rw[if_pos h]
theorem Jo(m:Nat)(p q:Ser K):cv (sh m p) q=sh m (cv p q):=by
 funext n;by_cases h:m<=n
 ·rw[rq _ h]
  unfold cv;obtain⟨k,rfl⟩:∃k,n=m+k:=⟨n-m,byO⟩;rw[show m+k+1=m+(k+1) by omega,rz,eh (n:=m) (fun i hi=>by rw[xQ _ hi,zero_mul]),zero_add,show m+k-m=k by omega];refine bO fun i hi=>?_;rw[rq _ byO,show m+i-m=i by omega,show m+k-(m+i)=k-i by omega]
 ·rw[xQ _ byO]
  exact eh fun i hi=>by rw[xQ _ byO,zero_mul]
def s1:Ser K:=fun n=>if n=0 then 1 else 0
theorem qX(p:Ser K):cv s1 p=p:=by
 funext n;unfold cv;rw[pB (k:=0) byO (fun i _ h=>by unfold s1;rw[if_neg h,zero_mul])];unfold s1;rw[if_pos rfl,one_mul,Nat.sub_zero]
def dg(p:Ser K)(d:Nat):Prop:=∀i,d<i->p i=0
theorem wE{p q:Ser K}{a b:Nat}(hp:dg p a)(hq:dg q b):dg (cv p q) (a+b):=by
 intro n hn;refine eh fun i hi=>?_;by_cases h:a<i
 ·rw[hp i h,zero_mul]
 ·rw[hq (n-i) byO,mul_zero]
def pv(p:Ser K)(d:Nat)(x:K):K:=sm (d+1) (fun i=>p i*pw x i)
theorem xI{p q:Ser K}{a b:Nat}(hp:dg p a)(hq:dg q b)(x:K):pv (cv p q) (a+b) x=pv p a x*pv q b x:=by
 unfold pv cv;have e1:sm (a+b+1) (fun n=>sm (n+1) (fun i=>p i*q (n-i))*pw x n)=sm (a+b+1) (fun n=>sm (n+1) (fun i=>p i*pw x i*(q (n-i)*pw x (n-i)))):=by
  refine bO fun n hn=>?_;rw[oH];refine bO fun i hi=>?_;obtain⟨k,rfl⟩:∃k,n=i+k:=⟨n-i,byO⟩;rw[show i+k-i=k by omega,gU];exact(show(((p i)*(q k))*((pw x i)*(pw x k)))=(((p i)*(pw x i))*((q k)*(pw x k))) from dV [(p i),(q k),(pw x i),(pw x k)] (.mul (.mul (.v 0) (.v 1)) (.mul (.v 2) (.v 3))) (.mul (.mul (.v 0) (.v 2)) (.mul (.v 1) (.v 3))) rfl)
 rw[e1,zF (fun i j=>p i*pw x i*(q j*pw x j)),oH,pA (m:=a+1) byO (fun i h1 h2=>by
  refine eh fun j _=>?_;rw[hp i byO,zero_mul,zero_mul])]
 refine bO fun i hi=>?_;rw[nD,pA (m:=b+1) byO (fun j h1 h2=>by rw[hq j byO,zero_mul,mul_zero])]
def lin(X:K):Ser K:=fun n=>if n=0 then 1 else if n=1 then-X else 0
theorem yI(X:K):dg (lin X) 1:=by
 intro i hi;unfold lin;rw[if_neg byO,if_neg byO]
theorem En(X x:K):pv (lin X) 1 x=1-X*x:=by
 unfold pv lin;rw[cD,zE,if_pos rfl,if_neg byO,if_pos rfl,gD,vC,mul_one,neg_mul];rfl
theorem LX(X:K)(p:Ser K)(n:Nat):cv (lin X) p (n+1)=p (n+1)-X*p n:=by
 unfold cv;rw[ij,ij,eh (n:=n) (fun i _=>by unfold lin;rw[if_neg byO,if_neg byO,zero_mul])];unfold lin;rw[if_pos rfl,if_neg byO,if_pos rfl,one_mul,add_zero,neg_mul];rfl
theorem GV(X:K)(p:Ser K):cv (lin X) p 0=p 0:=by
 rw[zc];unfold lin;rw[if_pos rfl,one_mul]
def dl(X:K)(p:Ser K):Ser K:=fun n=>sm (n+1) (fun i=>p i*pw X (n-i))
theorem G3(X:K)(p:Ser K):dl X p 0=p 0:=by
 unfold dl;rw[zE,gD,mul_one]
theorem G0(X:K)(p:Ser K)(n:Nat):dl X p (n+1)=X*dl X p n+p (n+1):=by
 unfold dl;rw[cD,Nat.sub_self,gD,mul_one,nD];congr 1;refine bO fun i hi=>?_;rw[show n+1-i=(n-i)+1 by omega,gC];exact(show((p i)*((pw X (n-i))*X))=(X*((p i)*(pw X (n-i)))) from dV [(p i),(pw X (n-i)),X] (.mul (.v 0) (.mul (.v 1) (.v 2))) (.mul (.v 2) (.mul (.v 0) (.v 1))) rfl)
theorem O2(X:K)(p:Ser K):cv (lin X) (dl X p)=p:=by
 funext n;cases n with
 | zero=>rw[GV,G3]
 | succ n=>rw[LX,G0];exact(show(((X*dl X p n)+(p (n+1)))-(X*dl X p n))=(p (n+1)) from dV [(X*dl X p n),(p (n+1))] (.add (.add (.v 0) (.v 1)) (.neg (.v 0))) (.v 1) rfl)
theorem sZ{x X:K}(h:X*x=1)(n:Nat):pw X n*pw x n=1:=by rw[<-ER,h,yk]
theorem O6{X x:K}(h:X*x=1){p:Ser K}{d:Nat}(hp:dg p (d+1))(hr:pv p (d+1) x=0):dg (dl X p) d:=by
 have key:∀n,d+1<=n->dl X p n=pw X n*pv p (d+1) x:=by
  intro n hn;unfold dl pv;rw[pA (m:=d+1+1) byO (fun i h1 h2=>by rw[hp i byO,zero_mul]),nD];refine bO fun i hi=>?_;obtain⟨k,rfl⟩:∃k,n=k+i:=⟨n-i,byO⟩;rw[show k+i-i=k by omega,gU];have:=sZ h i;have e:=(show(((pw X k)*(pw X i))*((p i)*(pw x i)))=(((p i)*(pw X k))*((pw X i)*(pw x i))) from dV [(pw X k),(pw X i),(p i),(pw x i)] (.mul (.mul (.v 0) (.v 1)) (.mul (.v 2) (.v 3))) (.mul (.mul (.v 2) (.v 0)) (.mul (.v 1) (.v 3))) rfl);rw[e,this,mul_one]
 intro i hi;rw[key i byO,hr,mul_zero]
def rH:List K->Ser K
 | []=>s1
 | X::l=>cv (lin X) (rH l)
theorem Jp:dg (s1:Ser K) 0:=by
 intro i hi;unfold s1;rw[if_neg byO]
theorem uQ:∀l:List K,dg (rH l) l.length
 | []=>Jp
 | X::l=>by
  have:=wE (yI X) (uQ l);rw[show 1+l.length=(X::l).length by simp;omega]at this;exact this
theorem Px(x:K):pv s1 0 x=1:=by
 unfold pv;rw[zE,gD,mul_one];rfl
theorem uy(X:K)(l:List K)(x:K):pv (rH (X::l)) (l.length+1) x=(1-X*x)*pv (rH l) l.length x:=by
 have:=xI (yI X) (uQ l) x;rw[En,show 1+l.length=l.length+1 by omega]at this;exact this
theorem rQ{X Y x:K}(e:X*x=1)(h:X≠Y):1-Y*x≠0:=by
 intro h2;apply h;have hx:x≠0:=by rintro rfl;rw[mul_zero]at e;exact rP e.symm
 apply mul_left_cancel hx;rw[mul_comm x X,mul_comm x Y,e];exact sub_eq_zero h2
theorem rZ:∀{l:List K} {X x:K},X ∉ l->X*x=1->pv (rH l) l.length x≠0
 | [],_,x,_,_=>by rw[rH,an₀,Px];exact rP
 | Y::l,X,x,h,e=>by
  rw[ak₀,uy];refine mul_ne_zero (rQ e (fun e2=>h (by rw[e2];simp))) (rZ (fun h2=>h (by simp[h2])) e)
theorem tl:∀(l:List K) (xs:List K) (p:Ser K) (d:Nat),l.length=xs.length->l.Nodup->(∀i (h:i<l.length) (h':i<xs.length),l[i]*xs[i]=1)->dg p (l.length+d)->(∀x ∈ xs,pv p (l.length+d) x=0)->∃q,dg q d/\p=cv (rH l) q
 | [],xs,p,d,_,_,_,hp,_=>⟨p,by simpa using hp,by rw[rH,qX]⟩
 | X::l,[],p,d,hl,_,_,_,_=>by simp at hl
 | X::l,x::xs,p,d,hl,hn,hx,hp,hr=>by
  have e:X*x=1:=hx 0 (by simp) (by simp);have hlen:l.length=xs.length:=by simpa using hl
  have hd:(X::l).length+d=(l.length+d)+1:=by simp;omega
  rw[hd]at hp hr;have h1:=O6 e hp (hr x (by simp));have h2:p=cv (lin X) (dl X p):=(O2 X p).symm;have hnot:X ∉ l:=(List.nodup_cons.1 hn).1;obtain⟨q,hq,hq2⟩:=tl l xs (dl X p) d hlen (List.nodup_cons.1 hn).2 (fun i h h'=>hx (i+1) (by simpa using h) (by simpa using h')) h1 (by
   intro y hy;have hp0:=hr y (by simp[hy]);rw[h2]at hp0;have hv:=xI (yI X) h1 y;rw[show 1+(l.length+d)=l.length+d+1 by omega,hp0,En]at hv;obtain⟨i,hi,rfl⟩:=List.getElem_of_mem hy;have hi':i<l.length:=byO;have hy1:=hx (i+1) (by simpa using hi') (by simpa using hi);simp only[List.getElem_cons_succ]at hy1;rcases mul_eq_zero hv.symm with h0|h0
   ·exact absurd h0 (rQ hy1 (fun e2=>hnot (by rw[<-e2];exact List.getElem_mem _)))
   ·exact h0)
  exact⟨q,hq,by rw[rH,wC,<-hq2,<-h2]⟩
end
end Go.RS
namespace Go.RS
section
variable {K:Type}[Fd K]
structure Gen (s C:Ser K)(L n:Nat):Prop where
 one:C 0=1
 deg:dg C L
 gen:∀k,L<=k->k<n->cv C s k=0
structure Reg (K:Type) where
 C:Ser K
 B:Ser K
 L:Nat
 m:Nat
 b:K
def Reg.init:Reg K:=⟨s1,s1,0,1,1⟩
def Reg.next(s:Ser K)(n:Nat)(r:Reg K):Reg K:=
 if cv r.C s n=0 then { r with m:=r.m+1 }
 else if 2*r.L<=n then⟨fun i=>r.C i-cv r.C s n*inv r.b*sh r.m r.B i,r.C,n+1-r.L,1,cv r.C s n⟩
 else { r with C:=fun i=>r.C i-cv r.C s n*inv r.b*sh r.m r.B i,m:=r.m+1 }
def Reg.run(s:Ser K):Nat->Reg K
 | 0=>Reg.init
 | n+1=>(Reg.run s n).next s n
structure RInv (s:Ser K)(n:Nat)(r:Reg K):Prop where
 gen:Gen s r.C r.L n
 le:r.L<=n
 min:∀D M,Gen s D M n->r.L<=M
 b:r.b≠0
 mp:0<r.m
 old:∃LB,dg r.B LB/\r.L+LB+r.m=n+1/\(∀t,LB<=t->t+r.m<n->cv r.B s t=0)/\(LB+r.m<=n->cv r.B s (n-r.m)=r.b)
def geo(X:K):Ser K:=fun n=>pw X n
def gs:List (K×K)->Ser K
 | []=>fun _=>0
 | (y,X)::l=>fun n=>y*geo X n+gs l n
def xs:List (K×K)->List K:=List.map Prod.snd
theorem zb(p:Ser K):cv p (fun _=>0)=fun _=>0:=by
 funext n;exact eh fun i _=>mul_zero _
end
end Go.RS
namespace Go.RS
theorem lX:∀(q:Nat) (l:List Nat),l.Nodup->(∀x ∈ l,x<q)->l.length<=q
 | 0,l,_,h=>by
  cases l with
  | nil=>simp
  | cons a l=>exact absurd (h a (by simp)) byO
 | q+1,l,hn,h=>by
  by_cases hm:q ∈ l
  ·have h1:=List.length_erase_of_mem hm
   have h2:=lX q (l.erase q) (hn.erase q) (fun x hx=>by
    have h3:=h x (List.mem_of_mem_erase hx);have h4:x≠q:=(hn.mem_erase_iff.1 hx).1;omega)
   have h3:=List.length_pos_of_mem hm;omega
  ·have:=lX q l hn (fun x hx=>by
    have h3:=h x hx;have h4:x≠q:=fun e=>hm (e▸hx);omega)
   omega
theorem gS{α:Type}{f:Nat->α}{n:Nat}(h:∀i j,i<n->j<n->f i=f j->i=j):((List.range n).map f).Nodup:=by
 rw[List.nodup_iff_pairwise_ne]at *;rw[List.pairwise_map];refine List.Pairwise.imp_of_mem ?_ (List.nodup_iff_pairwise_ne.1 List.nodup_range);intro a b ha hb hne e;exact hne (h a b (by simpa using ha) (by simpa using hb) e)
theorem pW{q:Nat}{f:Nat->Nat}(h1:∀i,i<q->f i<q)(h2:∀i j,i<q->j<q->f i=f j->i=j){y:Nat}(hy:y<q):∃x,x<q/\f x=y:=by
 apply Decidable.byContradiction;intro hc;have hnot:y ∉ (List.range q).map f:=by
  intro hm;obtain⟨x,hx,e⟩:=List.mem_map.1 hm;exact hc ⟨x,by simpa using hx,e⟩
 have:=lX q (y::(List.range q).map f) (List.nodup_cons.2 ⟨hnot,gS h2⟩) (by
  intro x hx;rcases List.mem_cons.1 hx with rfl|hx
  ·exact hy
  ·obtain⟨i,hi,rfl⟩:=List.mem_map.1 hx
   exact h1 i (by simpa using hi))
 simp at this;omega
theorem least{P:Nat->Prop}:∀n,P n->∃m,m<=n/\P m/\∀k,k<m->¬ P k:=by
 intro n
 induction n using Nat.strongRecOn with
 | _ n ih=>
  intro h;by_cases hc:∃k,k<n/\P k
  ·obtain⟨k,h1,h2⟩:=hc
   obtain⟨m,a,b,c⟩:=ih k h1 h2;exact⟨m,byO,b,c⟩
  ·exact⟨n,Nat.le_refl _,h,fun k hk hp=>hc ⟨k,hk,hp⟩⟩
def Pr(p:Nat):Prop:=2<=p/\∀d,2<=d->d<p->¬ d ∣ p
theorem yq{p m:Nat}(hp:Pr p)(h:¬ p ∣ m):Nat.gcd p m=1:=by
 have hd:=Nat.gcd_dvd_left p m;have hpos:0<Nat.gcd p m:=Nat.gcd_pos_of_pos_left m (by have:=hp.1;omega);have hle:=Nat.le_of_dvd (by have:=hp.1;omega) hd;apply Decidable.byContradiction;intro hc;by_cases he:Nat.gcd p m=p
 ·apply h
  rw[<-he];exact Nat.gcd_dvd_right p m
 ·exact hp.2 _ byO byO hd
section
variable {K:Type}[Fd K]
def Ord(a:K)(n:Nat):Prop:=0<n/\pw a n=1/\∀m,0<m->m<n->pw a m≠1
theorem vB{a:K}{n:Nat}(h:pw a n=1)(k:Nat):pw a (k%n)=pw a k:=by
 have e:k=n*(k/n)+k%n:=(Nat.div_add_mod k n).symm;have:pw a k=pw a (n*(k/n))*pw a (k%n):=by rw[<-gU,<-e]
 rw[this,Eo,h,yk,one_mul]
theorem AY{a:K}{n k:Nat}(h:Ord a n)(hk:pw a k=1):n ∣ k:=by
 obtain⟨h1,h2,h3⟩:=h;rw[Nat.dvd_iff_mod_eq_zero];apply Decidable.byContradiction;intro hc;exact h3 (k%n) byO (Nat.mod_lt k h1) (by rw[vB h2,hk])
structure Num (K:Type)[Fd K] where
 q:Nat
 val:K->Nat
 lt:∀x,val x<q
 inj:∀x y,val x=val y->x=y
 sur:∀i,i<q->∃x,val x=i
 v0:val 0=0
variable (N:Num K)
theorem Num.elems:∃l:List K,l.Nodup/\l.length=N.q-1/\(∀x,x ∈ l↔x≠0):=by
 have hf:∃f:Nat->K,∀i,i<N.q->N.val (f i)=i:=
  ⟨fun i=>if h:i<N.q then(N.sur i h).choose else 0,fun i h=>by simp only[h,dif_pos];exact(N.sur i h).choose_spec⟩
 obtain⟨f,hf⟩:=hf;refine⟨(List.range (N.q-1)).map (fun i=>f (i+1)),gS ?_,by simp,fun x=>?_⟩
 ·intro i j hi hj e
  have h1:=hf (i+1) byO;have h2:=hf (j+1) byO;rw[e,h2]at h1;omega
 ·constructor
  ·intro hm e
   obtain⟨i,hi,e2⟩:=List.mem_map.1 hm;have hi0:i<N.q-1:=by simpa using hi
   have h1:=hf (i+1) byO;have e2:f (i+1)=x:=e2;rw[e2,e,N.v0]at h1;omega
  ·intro h
   have hv:N.val x≠0:=fun e=>h (N.inj x 0 (by rw[e,N.v0]));have hl:=N.lt x;refine List.mem_map.2 ⟨N.val x-1,by simp;omega,?_⟩;show f (N.val x-1+1)=x;apply N.inj;rw[hf _ byO];omega
theorem Num.ord(a:K)(ha:a≠0):∃n,Ord a n/\n<=N.q-1:=by
 have hex:∃n,0<n/\pw a n=1/\n<=N.q-1:=by
  apply Classical.byContradiction;intro hc;obtain⟨l,_,hl,hmem⟩:=N.elems;have hinj:∀i j,i<N.q->j<N.q->N.val (pw a i)=N.val (pw a j)->i=j:=by
   have key:∀i k,i+k<N.q->pw a i=pw a (i+k)->k=0:=by
    intro i k hk e;rw[gU]at e;have e2:pw a k=1:=by
     symm
     apply mul_left_cancel (dM ha i);rw[mul_one];exact e
    apply Decidable.byContradiction;intro hk0;exact hc ⟨k,byO,e2,byO⟩
   intro i j hi hj e;have e:=N.inj _ _ e;rcases Nat.le_total i j with h|h
   ·have:=key i (j-i) byO (by rw[show i+(j-i)=j by omega];exact e);omega
   ·have:=key j (i-j) byO (by rw[show j+(i-j)=i by omega];exact e.symm);omega
  have hlen:=lX N.q (0::(List.range N.q).map (fun i=>N.val (pw a i))) (List.nodup_cons.2 ⟨by
   intro hm;obtain⟨i,_,e⟩:=List.mem_map.1 hm;exact dM ha i (N.inj _ _ (by rw[N.v0];exact e)),gS hinj⟩) (by
   intro x hx;rcases List.mem_cons.1 hx with rfl|hx
   ·exact Nat.lt_of_le_of_lt (Nat.zero_le _) (N.lt 0)
   ·obtain⟨i,_,rfl⟩:=List.mem_map.1 hx
    exact N.lt _)
  simp at hlen;omega
 obtain⟨n,h1,h2,h3⟩:=hex;obtain⟨m,hm1,⟨hm2,hm3⟩,hm4⟩:=least (P:=fun k=>0<k/\pw a k=1) n ⟨h1,h2⟩;exact⟨m,⟨hm2,hm3,fun k hk hlt e=>hm4 k hlt ⟨hk,e⟩⟩,byO⟩
end
end Go.RS
namespace Go.RS
instance boolFd:Fd Bool where
 add:=xor
 mul:=and
 neg:=id
 zero:=false
 one:=true
 inv:=id
 add_assoc':=by decide
 add_comm':=by decide
 add_zero':=by decide
 add_neg':=by decide
 mul_assoc':=by decide
 mul_comm':=by decide
 mul_one':=by decide
 mul_add':=by decide
 mul_inv':=by decide
 one_ne':=by decide
 dec:=inferInstance
def bt(a:Nat):Ser Bool:=fun i=>a.testBit i
theorem qL{a b:Nat}(h:bt a=bt b):a=b:=Nat.eq_of_testBit_eq fun i=>congrFun h i
theorem Ci(a b:Nat):bt (a ^^^ b)=fun i=>bt a i+bt b i:=by
 funext i;exact Nat.testBit_xor a b i
theorem mL{a d:Nat}(h:a<2^(d+1)):dg (bt a) d:=fun i hi=>Nat.testBit_lt_two_pow (bc₀ h (Nat.pow_le_pow_right byO byO))
theorem EG{a d:Nat}(h:dg (bt a) d):a<2^(d+1):=Nat.lt_pow_two_of_testBit a fun i hi=>h i byO
def ofB:Nat->(Nat->Bool)->Nat
 | 0,_=>0
 | n+1,f=>ofB n f ||| (if f n=true then 2^n else 0)
theorem AV(f:Nat->Bool)(i:Nat):∀n,(ofB n f).testBit i=(decide (i<n)&&f i)
 | 0=>by simp[ofB]
 | n+1=>by
  rw[ofB,Nat.testBit_or,AV f i n];by_cases h:i=n
  ·subst h
   cases hf:f i<;>simp
  ·have h1:decide (i<n+1)=decide (i<n):=by rw[Bool.eq_iff_iff];simp;omega
   rw[h1];split
   ·rw[Nat.testBit_two_pow]
    have:decide (n=i)=false:=by simp;omega
    rw[this,Bool.or_false]
   ·simp
def cl(a b:Nat):Nat:=ofB (a+b+1) (cv (bt a) (bt b))
theorem EH(a:Nat):a<2^(a+1):=bc₀ Nat.lt_two_pow_self (Nat.pow_le_pow_right byO byO)
theorem j3(a b:Nat):bt (cl a b)=cv (bt a) (bt b):=by
 funext i;show(ofB (a+b+1) (cv (bt a) (bt b))).testBit i=_;rw[AV];by_cases h:i<a+b+1
 ·simp[h]
 ·rw[wE (mL (EH a)) (mL (EH b)) i byO]
  simp[h];rfl
theorem ef(a b:Nat):cl a b=cl b a:=qL (by rw[j3,j3,pn])
theorem j5(a b c:Nat):cl (cl a b) c=cl a (cl b c):=qL (by rw[j3,j3,j3,j3,wC])
theorem jy(a b c:Nat):cl a (b ^^^ c)=cl a b ^^^ cl a c:=qL (by
 rw[j3,Ci,Ci,j3,j3];funext n;exact DO _ _ _ _)
theorem Fs(a b c:Nat):cl (a ^^^ b) c=cl a c ^^^ cl b c:=by rw[ef,jy,ef c a,ef c b]
theorem LK(k:Nat):bt (2^k)=sh k s1:=by
 funext i;show(2^k).testBit i=_;rw[Nat.testBit_two_pow];unfold sh s1;by_cases h:k=i
 ·subst h;simp;rfl
 ·by_cases h2:k<=i
  ·rw[if_pos h2,if_neg byO];simp[h];rfl
  ·rw[if_neg h2];simp[h];rfl
theorem iM(a k:Nat):cl a (2^k)=a <<< k:=qL (by
 rw[ef,j3,LK,Jo,qX];funext i;show sh k (bt a) i=(a <<< k).testBit i;rw[Nat.testBit_shiftLeft];by_cases h:k<=i
 ·rw[rq _ h];simp[h,bt]
 ·rw[xQ _ byO];simp[h];rfl)
theorem uM(a:Nat):cl a 1=a:=by have:=iM a 0;simpa using this
theorem Qu:bt 0=fun _=>0:=by funext i;exact Nat.zero_testBit i
theorem fy(a:Nat):cl a 0=0:=qL (by rw[j3,Qu,cv_null'])
where cv_null' {p:Ser Bool}:cv p (fun _=>0)=fun _=>0:=by funext n;exact eh fun i _=>mul_zero _
theorem jU{n:Nat}(h:n≠0):2^n.log2<=n:=Nat.log2_self_le h
theorem dI(n:Nat):n<2^(n.log2+1):=Nat.lt_log2_self
theorem kH{n:Nat}(h:n≠0):n.testBit n.log2=true:=by
 apply Decidable.byContradiction;intro hc;have hb:n.testBit n.log2=false:=by simpa using hc
 have:n<2^n.log2:=Nat.lt_pow_two_of_testBit n fun i hi=>by
  by_cases e:i=n.log2
  ·rw[e];exact hb
  ·exact Nat.testBit_lt_two_pow (bc₀ (dI n) (Nat.pow_le_pow_right byO byO))
 have:=jU h;omega
theorem rJ{n d:Nat}(h1:2^d<=n)(h2:n<2^(d+1)):n.log2=d:=by
 have hn:n≠0:=by have:0<2^d:=Nat.pow_pos byO;omega
 have h3:=jU hn;have h4:=dI n;have a:n.log2<d+1:=(Nat.pow_lt_pow_iff_right byO).1 (Nat.lt_of_le_of_lt h3 h2);have b:d<n.log2+1:=(Nat.pow_lt_pow_iff_right byO).1 (Nat.lt_of_le_of_lt h1 h4);omega
theorem xp{a b:Nat}(ha:a≠0)(hb:b≠0):(cl a b).testBit (a.log2+b.log2)=true:=by
 have:=congrFun (j3 a b) (a.log2+b.log2);show bt (cl a b) (a.log2+b.log2)=true;rw[this];unfold cv;rw[pB (k:=a.log2) byO (fun i hi hne=>by
  by_cases h:a.log2<i
  ·rw[mL (dI a) i h,zero_mul]
  ·rw[mL (dI b) _ byO,mul_zero])]
 rw[show a.log2+b.log2-a.log2=b.log2 by omega];show(a.testBit a.log2&&b.testBit b.log2)=true;rw[kH ha,kH hb];rfl
theorem OY{a b:Nat}:cl a b<2^(a.log2+b.log2+1):=EG (by
 rw[j3];exact wE (mL (dI a)) (mL (dI b)))
theorem qT{a b:Nat}(ha:a≠0)(hb:b≠0):cl a b≠0:=by
 intro h;have:=xp ha hb;rw[h,Nat.zero_testBit]at this;cases this
theorem xn{a b:Nat}(ha:a≠0)(hb:b≠0):(cl a b).log2=a.log2+b.log2:=
 rJ (Nat.ge_two_pow_of_testBit (xp ha hb)) OY
theorem nI{a b c:Nat}(h:a ^^^ b=c):a=c ^^^ b:=by rw[<-h,Nat.xor_assoc,Nat.xor_self,Nat.xor_zero]
theorem Cu(q:Nat)(hq:q≠0):∀p,∃m r,r<2^q.log2/\p=cl q m ^^^ r:=by
 intro p
 induction p using Nat.strongRecOn with
 | _ p ih=>
  by_cases h:p<2^q.log2
  ·exact⟨0,p,h,by rw[fy,Nat.zero_xor]⟩
  ·have hp:p≠0:=by have:0<2^q.log2:=Nat.pow_pos byO;omega
   have hle:q.log2<=p.log2:=by
    have h1:=dI p;have:2^q.log2<2^(p.log2+1):=byO;have:=(Nat.pow_lt_pow_iff_right (by omega:1<2)).1 this;omega
   have hs:(q <<< (p.log2-q.log2)).log2=p.log2:=by
    rw[<-iM,xn hq (Nat.pos_iff_ne_zero.1 (Nat.pow_pos byO)),rJ (Nat.le_refl _) (Nat.pow_lt_pow_right byO byO)];omega
   have hs0:q <<< (p.log2-q.log2)≠0:=by rw[<-iM];exact qT hq (Nat.pos_iff_ne_zero.1 (Nat.pow_pos byO))
   have hlt:p ^^^ q <<< (p.log2-q.log2)<2^p.log2:=Nat.lt_pow_two_of_testBit _ fun i hi=>by
    rw[Nat.testBit_xor];by_cases e:i=p.log2
    ·have:=kH hs0
     rw[hs]at this;rw[e,kH hp,this];rfl
    ·have h1:=mL (dI p) i byO
     have h2:=mL (dI (q <<< (p.log2-q.log2))) i byO;have h1:p.testBit i=false:=h1;have h2:(q <<< (p.log2-q.log2)).testBit i=false:=h2;rw[h1,h2];rfl
   obtain⟨m,r,hr,he⟩:=ih _ (bc₀ hlt (jU hp));refine⟨m ^^^ 2^(p.log2-q.log2),r,hr,?_⟩;rw[jy,iM]
   conv=>lhs;rw[nI he]
   rw[Nat.xor_assoc,Nat.xor_comm r,<-Nat.xor_assoc]
theorem vf{q m:Nat}(hq:q≠0)(h:cl q m<2^q.log2):m=0:=by
 apply Decidable.byContradiction;intro hm;have:=Nat.ge_two_pow_of_testBit (xp hq hm);have h2:2^q.log2<=2^(q.log2+m.log2):=Nat.pow_le_pow_right byO byO;omega
theorem Et{q m m' r r':Nat}(hq:q≠0)(hr:r<2^q.log2)(hr':r'<2^q.log2)(h:cl q m ^^^ r=cl q m' ^^^ r'):r=r':=by
 have e:cl q (m ^^^ m')=r ^^^ r':=by
  rw[jy];have h1:=nI h;rw[h1,Nat.xor_assoc,Nat.xor_assoc,Nat.xor_comm r (cl q m'),<-Nat.xor_assoc r',Nat.xor_comm r',<-Nat.xor_assoc,<-Nat.xor_assoc,Nat.xor_self,Nat.zero_xor,Nat.xor_comm]
 have hm:=vf hq (by rw[e];exact Nat.xor_lt_two_pow hr hr');rw[hm,fy]at e;have:=nI e.symm;rw[Nat.zero_xor]at this;exact this
def Irr(p:Nat):Prop:=∀t,2<=t->2*t.log2<=p.log2->¬ ∃m,p=cl t m
theorem B3{p a b:Nat}(hi:Irr p)(ha:a<2^p.log2)(hb:b<2^p.log2)(hm:∃m,cl a b=cl p m):a=0\/b=0:=by
 apply Decidable.byContradiction;intro hc;have ha0:a≠0:=fun e=>hc (.inl e);have hb0:b≠0:=fun e=>hc (.inr e);have hp0:p≠0:=by
  rintro rfl;have h:Nat.log2 0=0:=by decide
  rw[h]at ha;omega
 obtain⟨a',_,⟨h1,h2,m,h3⟩,hmin⟩:=least (P:=fun a=>a≠0/\a<2^p.log2/\∃m,cl a b=cl p m) a ⟨ha0,ha,hm⟩;obtain⟨q,r,hr,he⟩:=Cu a' h1 p;have hr0:r=0:=by
  apply Decidable.byContradiction;intro hr0;have hlt:r<a':=bc₀ hr (jU h1);refine hmin r hlt ⟨hr0,byO,b ^^^ cl q m,?_⟩;have e:r=p ^^^ cl a' q:=by rw[he,Nat.xor_comm (cl a' q) r,Nat.xor_assoc,Nat.xor_self,Nat.xor_zero]
  rw[jy,e,Fs,ef a' q,j5,h3,<-j5,ef q p,j5]
 rw[hr0,Nat.xor_zero]at he;have hq0:q≠0:=by rintro rfl;rw[fy]at he;exact hp0 he
 have hlog:=xn h1 hq0;rw[<-he]at hlog;have ha2:2<=a':=by
  have:a'≠1:=by
   rintro rfl;rw[ef,uM]at h3;have:=vf hp0 (by rw[<-h3];exact hb);rw[this,fy]at h3;exact hb0 h3
  omega
 have hal:a'.log2<p.log2:=by
  have:=Nat.lt_of_le_of_lt (jU h1) h2;exact(Nat.pow_lt_pow_iff_right (by omega:1<2)).1 this
 have hq2:2<=q:=by
  have:q≠1:=by
   rintro rfl;have h:Nat.log2 1=0:=by decide
   omega
  omega
 rcases Nat.lt_or_ge p.log2 (2*a'.log2)with h|h
 ·exact hi q hq2 byO ⟨a',by rw[ef];exact he⟩
 ·exact hi a' ha2 h ⟨q,he⟩
structure FD where
 q:Nat
 poly:Nat
def FD.Ok(f:FD):Prop:=(f.poly=0/\2<f.q/\f.q<=4096/\Pr f.q)\/(f.poly≠0/\2<=f.poly/\f.poly.log2<=12/\f.q=2^f.poly.log2/\Irr f.poly)
structure El (f:FD) where
 val:Nat
 lt:val<f.q
theorem El.ext{f:FD}{a b:El f}(h:a.val=b.val):a=b:=by
 cases a;cases b;simp at h;subst h;rfl
theorem ua{p:Nat}(h:2<=p):1<=p.log2:=by
 have h1:=dI p;apply Decidable.byContradiction;intro hc;have:p.log2=0:=byO;rw[this]at h1;omega
theorem FD.Ok.two{f:FD}(h:f.Ok):2<=f.q/\f.q<=4096:=by
 rcases h with ⟨_,h1,h2,_⟩|⟨_,h1,h2,h3,_⟩
 ·omega
 ·rw[h3]
  have:=ua h1;have a:2^1<=2^f.poly.log2:=Nat.pow_le_pow_right byO this;have b:2^f.poly.log2<=2^12:=Nat.pow_le_pow_right byO h2;omega
theorem yx(p q:Nat)(hq:q≠0):∃r,r<2^q.log2/\∃m,p=cl q m ^^^ r:=by
 obtain⟨m,r,h1,h2⟩:=Cu q hq p;exact⟨r,h1,m,h2⟩
noncomputable def rm(p q:Nat):Nat:=if h:q≠0 then(yx p q h).choose else 0
theorem xL{q:Nat}(hq:q≠0)(p:Nat):rm p q<2^q.log2:=by
 unfold rm;rw[dif_pos hq];exact(yx p q hq).choose_spec.1
theorem rj{q:Nat}(hq:q≠0)(p:Nat):∃m,p=cl q m ^^^ rm p q:=by
 unfold rm;rw[dif_pos hq];exact(yx p q hq).choose_spec.2
theorem tk{q:Nat}(hq:q≠0){p r m:Nat}(hr:r<2^q.log2)(h:p=cl q m ^^^ r):rm p q=r:=by
 obtain⟨m',h'⟩:=rj hq p;exact Et hq (xL hq p) hr (h'.symm.trans h)
theorem yz{q:Nat}(hq:q≠0)(p m:Nat):rm (p ^^^ cl q m) q=rm p q:=by
 obtain⟨m',h'⟩:=rj hq p;refine tk hq (xL hq p) (m:=m' ^^^ m) ?_;rw[jy]
 conv=>lhs;rw[h']
 rw[Nat.xor_assoc,Nat.xor_comm (rm p q),Nat.xor_assoc]
theorem jJ{q r:Nat}(hq:q≠0)(hr:r<2^q.log2):rm r q=r:=tk hq hr (m:=0) (by rw[fy,Nat.zero_xor])
theorem FB{q:Nat}(hq:q≠0)(a b:Nat):rm (a ^^^ b) q=rm a q ^^^ rm b q:=by
 obtain⟨m,h⟩:=rj hq a;obtain⟨m',h'⟩:=rj hq b;refine tk hq (Nat.xor_lt_two_pow (xL hq a) (xL hq b)) (m:=m ^^^ m') ?_;rw[jy]
 conv=>lhs;rw[h,h']
 rw[Nat.xor_assoc,Nat.xor_assoc,<-Nat.xor_assoc (rm a q),Nat.xor_comm (rm a q),Nat.xor_assoc (cl q m')]
theorem vF{q:Nat}(hq:q≠0)(a b:Nat):rm (cl (rm a q) b) q=rm (cl a b) q:=by
 obtain⟨m,h⟩:=rj hq a;have e:cl a b=cl (rm a q) b ^^^ cl q (cl m b):=by
  conv=>lhs;rw[h]
  rw[Fs,j5,Nat.xor_comm]
 rw[e,yz hq]
theorem I0{q:Nat}(hq:q≠0)(a b:Nat):rm (cl a (rm b q)) q=rm (cl a b) q:=by rw[ef,vF hq,ef]
noncomputable def fg(f:FD)(a b:Nat):Nat:=if f.poly=0 then(a+b)%f.q else a ^^^ b
noncomputable def eL(f:FD)(a b:Nat):Nat:=if f.poly=0 then a*b%f.q else rm (cl a b) f.poly
def ql(f:FD)(a:Nat):Nat:=if f.poly=0 then(f.q-a)%f.q else a
theorem zj{f:FD}(h:f.Ok){a b:Nat}(ha:a<f.q)(hb:b<f.q):fg f a b<f.q:=by
 unfold fg;rcases h with ⟨h0,h1,_⟩|⟨h0,h1,h2,h3,_⟩
 ·rw[if_pos h0];exact Nat.mod_lt _ byO
 ·rw[if_neg h0,h3];exact Nat.xor_lt_two_pow (by rw[<-h3];exact ha) (by rw[<-h3];exact hb)
theorem zk{f:FD}(h:f.Ok)(a b:Nat):eL f a b<f.q:=by
 unfold eL;rcases h with ⟨h0,h1,_⟩|⟨h0,h1,h2,h3,_⟩
 ·rw[if_pos h0];exact Nat.mod_lt _ byO
 ·rw[if_neg h0,h3];exact xL h0 _
theorem zl{f:FD}(h:f.Ok){a:Nat}(ha:a<f.q):ql f a<f.q:=by
 unfold ql;have:=h.two;split
 ·exact Nat.mod_lt _ byO
 ·exact ha
theorem BR(f:FD)(a b:Nat):eL f a b=eL f b a:=by
 unfold eL;rw[Nat.mul_comm,ef]
theorem yR{f:FD}(h:f.Ok)(a b c:Nat):eL f (eL f a b) c=eL f a (eL f b c):=by
 unfold eL;rcases h with ⟨h0,h1,_⟩|⟨h0,h1,h2,h3,_⟩
 ·rw[if_pos h0,if_pos h0,if_pos h0,if_pos h0,Nat.mod_mul_mod,Nat.mul_mod_mod,Nat.mul_assoc]
 ·rw[if_neg h0,if_neg h0,if_neg h0,if_neg h0,vF h0,I0 h0,j5]
theorem qk{f:FD}(h:f.Ok)(a b c:Nat):eL f a (fg f b c)=fg f (eL f a b) (eL f a c):=by
 unfold eL fg;rcases h with ⟨h0,h1,_⟩|⟨h0,h1,h2,h3,_⟩
 ·simp only[if_pos h0]
  rw[Nat.mul_mod_mod,Nat.mul_add,<-Nat.add_mod]
 ·simp only[if_neg h0]
  rw[jy,FB h0]
theorem yr{p a b:Nat}(hp:Pr p)(h:p ∣ a*b):p ∣ a\/p ∣ b:=by
 by_cases ha:p ∣ a
 ·exact .inl ha
 ·exact .inr (Nat.Coprime.dvd_of_dvd_mul_left (yq hp ha) h)
theorem uT{f:FD}(h:f.Ok){a b:Nat}(ha:a<f.q)(hb:b<f.q)(e:eL f a b=0):a=0\/b=0:=by
 unfold eL at e;rcases h with ⟨h0,h1,_,hp⟩|⟨h0,h1,h2,h3,hi⟩
 ·rw[if_pos h0]at e
  have hd:=Nat.dvd_of_mod_eq_zero e;rcases yr hp hd with h|h
  ·left
   apply Decidable.byContradiction;intro hc;have:=Nat.le_of_dvd byO h;omega
  ·right
   apply Decidable.byContradiction;intro hc;have:=Nat.le_of_dvd byO h;omega
 ·rw[if_neg h0]at e
  obtain⟨m,hm⟩:=rj h0 (cl a b);rw[e,Nat.xor_zero]at hm;exact B3 hi (by rw[<-h3];exact ha) (by rw[<-h3];exact hb) ⟨m,hm⟩
theorem n6{f:FD}(h:f.Ok){a:Nat}(ha:a<f.q):fg f a (ql f a)=0:=by
 unfold fg ql;rcases h with ⟨h0,h1,_⟩|⟨h0,h1,h2,h3,_⟩
 ·rw[if_pos h0,if_pos h0,Nat.add_mod_mod,show a+(f.q-a)=f.q by omega,Nat.mod_self]
 ·rw[if_neg h0,if_neg h0,Nat.xor_self]
theorem me(f:FD)(a b c:Nat):fg f (fg f a b) c=fg f a (fg f b c):=by
 unfold fg;split
 ·rw[Nat.mod_add_mod,Nat.add_mod_mod,Nat.add_assoc]
 ·rw[Nat.xor_assoc]
theorem iG(f:FD)(a b:Nat):fg f a b=fg f b a:=by
 unfold fg;rw[Nat.add_comm,Nat.xor_comm]
theorem oY{f:FD}(h:f.Ok){a:Nat}(ha:a<f.q):fg f a 0=a:=by
 unfold fg;split
 ·rw[Nat.add_zero,Nat.mod_eq_of_lt ha]
 ·rw[Nat.xor_zero]
theorem D5{f:FD}(h:f.Ok){a:Nat}(ha:a<f.q):eL f a 1=a:=by
 unfold eL;rcases h with ⟨h0,h1,_⟩|⟨h0,h1,h2,h3,_⟩
 ·rw[if_pos h0,Nat.mul_one,Nat.mod_eq_of_lt ha]
 ·rw[if_neg h0,uM,jJ h0 (by rw[<-h3];exact ha)]
theorem BS{f:FD}(h:f.Ok)(a:Nat):eL f a 0=0:=by
 unfold eL;rcases h with ⟨h0,h1,_⟩|⟨h0,h1,h2,h3,_⟩
 ·rw[if_pos h0];simp
 ·rw[if_neg h0,fy,jJ h0 (Nat.pow_pos byO)]
theorem wN{f:FD}(h:f.Ok){a b c:Nat}(ha:a<f.q)(hb:b<f.q)(hc:c<f.q)(e:fg f a b=fg f a c):b=c:=by
 have:fg f (ql f a) (fg f a b)=fg f (ql f a) (fg f a c):=by rw[e]
 rw[<-me,<-me,iG f (ql f a),n6 h ha,iG f 0,iG f 0,oY h hb,oY h hc]at this;exact this
theorem uS{f:FD}(h:f.Ok){a:Nat}(ha:a<f.q)(h0:a≠0):∃b,b<f.q/\eL f a b=1:=by
 refine pW (fun i _=>zk h a i) (fun i j hi hj e=>?_) (by have:=h.two;omega);have hn:=zl h hj;have e2:eL f a (fg f i (ql f j))=0:=by
  rw[qk h,e,<-qk h,n6 h hj,BS h]
 rcases uT h ha (zj h hi hn) e2 with h1|h1
 ·exact absurd h1 h0
 ·apply wN h hn hi hj
  rw[iG f _ i,h1,iG f _ j,n6 h hj]
@[reducible] noncomputable def FD.Ok.fd{f:FD}(h:f.Ok):Fd (El f) where
 add a b:=⟨fg f a.val b.val,zj h a.lt b.lt⟩
 mul a b:=⟨eL f a.val b.val,zk h _ _⟩
 neg a:=⟨ql f a.val,zl h a.lt⟩
 zero:=⟨0,by have:=h.two;omega⟩
 one:=⟨1,by have:=h.two;omega⟩
 inv a:=if e:a.val≠0 then⟨(uS h a.lt e).choose,(uS h a.lt e).choose_spec.1⟩ else a
 add_assoc' a b c:=El.ext (me f _ _ _)
 add_comm' a b:=El.ext (iG f _ _)
 add_zero' a:=El.ext (oY h a.lt)
 add_neg' a:=El.ext (n6 h a.lt)
 mul_assoc' a b c:=El.ext (yR h _ _ _)
 mul_comm' a b:=El.ext (BR f _ _)
 mul_one' a:=El.ext (D5 h a.lt)
 mul_add' a b c:=El.ext (qk h _ _ _)
 mul_inv' a ha:=by
  have e:a.val≠0:=fun e=>ha (El.ext e);apply El.ext;simp only[dif_pos e];exact(uS h a.lt e).choose_spec.2
 one_ne':=by intro e;have:=congrArg El.val e;simp at this
 dec a b:=if e:a.val=b.val then isTrue (El.ext e) else isFalse fun e2=>e (by rw[e2])
noncomputable def FD.Ok.num{f:FD}(h:f.Ok):@Num (El f) h.fd:=@Num.mk (El f) h.fd f.q El.val El.lt (fun _ _=>El.ext) (fun i hi=>⟨⟨i,hi⟩,rfl⟩) rfl
end Go.RS
namespace Go.RS
class OkC (f:FD):Prop where
 ok:f.Ok
noncomputable instance {f:FD}[h:OkC f]:Fd (El f):=h.ok.fd
section
variable {f:FD}[OkC f]
theorem Ak:(0:El f).val=0:=rfl
theorem val_mul(a b:El f):(a*b).val=eL f a.val b.val:=rfl
theorem wg{a:El f}(h:a≠0):a.val≠0:=fun e=>h (El.ext e)
theorem jB{a:El f}(h:a.val=0):a=0:=El.ext h
end
section
variable {K:Type}[Fd K]
theorem vA{g:K}{n:Nat}(hg:g≠0)(h:Ord g n):∀i j,i<n->j<n->pw g i=pw g j->i=j:=by
 have key:∀i k,i+k<n->pw g i=pw g (i+k)->k=0:=by
  intro i k hk e;rw[gU]at e;have e2:pw g k=1:=by
   symm
   apply mul_left_cancel (dM hg i);rw[mul_one];exact e
  apply Decidable.byContradiction;intro hk0;exact h.2.2 k byO byO e2
 intro i j hi hj e;rcases Nat.le_total i j with h|h
 ·have:=key i (j-i) byO (by rw[show i+(j-i)=j by omega];exact e);omega
 ·have:=key j (i-j) byO (by rw[show j+(i-j)=i by omega];exact e.symm);omega
theorem Num.pow_sur(N:Num K){g:K}(hg:g≠0)(h:Ord g (N.q-1)){x:K}(hx:x≠0):∃n,n<N.q-1/\pw g n=x:=by
 have hv:∀{y:K},y≠0->N.val y≠0:=fun hy e=>hy (N.inj _ 0 (by rw[e,N.v0]));obtain⟨n,hn,e⟩:=pW (q:=N.q-1) (f:=fun i=>N.val (pw g i)-1) (fun i hi=>by
   have h1:=N.lt (pw g i);have h2:=hv (dM hg i);omega) (fun i j hi hj e=>by
   have h1:=hv (dM hg i);have h2:=hv (dM hg j);exact vA hg h i j hi hj (N.inj _ _ byO)) (y:=N.val x-1) (by
   have h1:=N.lt x;have h2:=hv hx;omega)
 refine⟨n,hn,N.inj _ _ ?_⟩;have h1:=hv (dM hg n);have h2:=hv hx;omega
end
section
variable {f:FD}[OkC f]
theorem pow_sur{g:El f}(hg:g≠0)(h:Ord g (f.q-1)){x:El f}(hx:x≠0):∃n,n<f.q-1/\pw g n=x:=Num.pow_sur (OkC.ok (f:=f)).num hg h hx
end
section
variable {K:Type}[Fd K]
theorem Lk{g:K}{n k m:Nat}(h:pw g n=1)(hk:k+m=n):inv (pw g k)=pw g m:=by
 apply tP;rw[<-gU,hk,h]
theorem LZ{g:K}{n i j:Nat}(h:Ord g n)(hi:i<n)(hj:j<n):pw g ((i+n-j)%n)=pw g i*inv (pw g j):=by
 rw[vB h.2.1,Lk (m:=n-j) h.2.1 byO,<-gU,show i+n-j=i+(n-j) by omega]
theorem Hj{g:K}{n i j:Nat}(h:Ord g n):pw g ((i+j)%n)=pw g i*pw g j:=by
 rw[vB h.2.1,gU]
end
end Go.RS
namespace Go.RS
section
variable {K:Type}[Fd K]
def co(l:List K):Ser K:=fun i=>l.getD i 0
def tab(n:Nat)(F:Nat->K):List K:=(List.range n).map F
theorem eC(n:Nat)(F:Nat->K):(tab n F).length=n:=by simp[tab]
theorem tB{l:List K}{i:Nat}(h:i<l.length):co l i=l[i]:=by
 unfold co;rw[au₀,bb₀ h];rfl
theorem kj{l:List K}{i:Nat}(h:l.length<=i):co l i=0:=by
 unfold co;rw[au₀,av₀ h];rfl
theorem sE{n:Nat}{F:Nat->K}{i:Nat}(h:i<n):(tab n F).getD i 0=F i:=by
 simp[tab,au₀,h]
theorem kl(n:Nat)(F:Nat->K)(i:Nat):co (tab n F) i=if i<n then F i else 0:=by
 split
 ·rename_i h;exact sE h
 ·rename_i h;exact kj (by rw[eC];omega)
theorem cT{n:Nat}{F G:Nat->K}(h:∀i,i<n->F i=G i):tab n F=tab n G:=by
 unfold tab;apply List.map_congr_left;intro i hi;exact h i (by simpa using hi)
theorem zG(l:List K):tab l.length (co l)=l:=by
 apply List.ext_getElem (by rw[eC]);intro i h1 h2;simp only[tab,List.getElem_map,List.getElem_range];exact tB h2
theorem lz{n:Nat}{F:Nat->K}{k:Nat}{v:K}:(tab n F).set k v=tab n (fun i=>if i=k then v else F i):=by
 apply List.ext_getElem
 ·simp[tab]
 ·intro i h1 h2
  rw[List.getElem_set];simp only[tab,List.getElem_map,List.getElem_range];split
  ·rename_i h;rw[if_pos h.symm]
  ·rename_i h;rw[if_neg (fun e=>h e.symm)]
theorem jX(n:Nat):List.replicate n (0:K)=tab n (fun _=>0):=by
 apply List.ext_getElem
 ·simp[tab]
 ·intro i h1 h2;simp[tab]
theorem F9{n:Nat}{F:Nat->K}{l:List K}(h:l.length=n)(h2:∀i,i<n->co l i=F i):l=tab n F:=by
 rw[<-zG l,h];exact cT h2
theorem HJ{l m:List K}(h:l.length=m.length)(h2:∀i,i<l.length->co l i=co m i):l=m:=by
 rw[<-zG l,<-zG m,h];exact cT (by rw[<-h];exact h2)
def hor(l:List K)(x:K):K:=l.foldr (fun c v=>v*x+c) 0
theorem Dj(x:K):∀l:List K,hor l x=sm l.length (fun i=>co l i*pw x i)
 | []=>rfl
 | c::l=>by
  show hor l x*x+c=_;rw[ak₀,ij,Dj x l,oH];have e0:co (c::l) 0*pw x 0=c:=mul_one c;rw[e0,add_comm];congr 1;refine bO fun i hi=>?_;show co l i*pw x i*x=co l i*(pw x i*x);rw[mul_assoc]
def mh(l:List K)(x:K):K:=l.foldl (fun v c=>v*x+c) 0
theorem Dm(l:List K)(x:K):mh l x=hor l.reverse x:=by
 unfold mh hor;rw[List.foldr_reverse]
theorem Gw(x:K):∀l:List K,mh l x=sm l.length (fun i=>co l i*pw x (l.length-1-i)):=by
 intro l;rw[Dm,Dj,List.length_reverse,vO];refine bO fun i hi=>?_;have:co l.reverse (l.length-1-i)=co l i:=by
  rw[tB (by rw[List.length_reverse];omega),tB hi,List.getElem_reverse];congr 1;omega
 rw[this]
def bml(s:Ser K):Nat->Nat×Nat
 | 0=>(1,1)
 | n+1=>if cv (Reg.run s n).C s n=0 then bml s n
  else(max (bml s n).1 ((bml s n).2+(Reg.run s n).m),if 2*(Reg.run s n).L<=n then(bml s n).1 else(bml s n).2)
def trim:List K->List K
 | []=>[]
 | a::l=>match trim l with
  | []=>if a=0 then[] else[a]
  | m=>a::m
theorem lH:∀l:List K,trim (l++[0])=trim l
 | []=>by simp[trim]
 | a::l=>by simp only[am₀,trim,lH l]
theorem oK{b:K}(hb:b≠0):∀l:List K,trim (l++[b])=l++[b]
 | []=>by simp[trim,hb]
 | a::l=>by
  simp only[am₀,trim,oK hb l];split
  ·rename_i h;simp at h
  ·rfl
theorem tz{l:List K}:∀{n:Nat},n<=l.length->(∀i,n<=i->co l i=0)->trim (l.take n)=trim l:=by
 intro n hn hz;have key:∀k,n+k<=l.length->trim (l.take (n+k))=trim (l.take n):=by
  intro k
  induction k with
  | zero=>intro _;rfl
  | succ k ih=>
   intro hk;rw[<-Nat.add_assoc,List.take_add_one,bb₀ (show n+k<l.length by omega)];have:l[n+k]=0:=by rw[<-tB (show n+k<l.length by omega)];exact hz _ byO
   rw[this,Option.toList_some,lH,ih byO]
 have:=key (l.length-n) byO;rw[show n+(l.length-n)=l.length by omega,List.take_length]at this;exact this.symm
theorem CN{l:List K}{n:Nat}(hn:n<l.length)(h:co l n≠0):trim (l.take (n+1))=l.take (n+1):=by
 rw[List.take_add_one,bb₀ hn,Option.toList_some];exact oK (by rw[<-tB hn];exact h) _
theorem nS:∀(l:List K) (i:Nat),co (trim l) i=co l i
 | [],_=>rfl
 | a::l,i=>by
  have ih:=nS l;simp only[trim];split
  ·rename_i h
   rw[h]at ih;split
   ·rename_i ha
    cases i with
    | zero=>rw[ha];rfl
    | succ i=>exact ih i
   ·cases i with
    | zero=>rfl
    | succ i=>exact ih i
  ·cases i with
   | zero=>rfl
   | succ i=>exact ih i
theorem pX:∀l:List K,(trim l).length<=l.length
 | []=>Nat.le_refl _
 | a::l=>by
  have:=pX l;simp only[trim];split
  ·split<;>simp
  ·simpa using this
theorem sJ:∀l:List K,trim l≠[]->co l ((trim l).length-1)≠0
 | [],h=>absurd rfl h
 | a::l,h=>by
  have ih:=sJ l;simp only[trim]at h ⊢;split at h
  ·rename_i ht
   split at h
   ·exact absurd rfl h
   ·rename_i ha;simp only[if_neg ha];exact ha
  ·rename_i hm
   have hne:trim l≠[]:=fun e=>hm e;have:=ih hne;show co (a::l) ((a::trim l).length-1)≠0;have hpos:0<(trim l).length:=List.length_pos_iff.2 hne;rw[ak₀,show(trim l).length+1-1=((trim l).length-1)+1 by omega];exact this
end
end Go.RS
namespace Go.RS
section
variable {K:Type}[Fd K]
def mon(r:K):Ser K:=fun n=>if n=0 then-r else if n=1 then 1 else 0
theorem DR(r:K):dg (mon r) 1:=by
 intro i hi;unfold mon;rw[if_neg byO,if_neg byO]
theorem wD(r:K)(p:Ser K):cv p (mon r) 0=- (p 0*r):=by
 rw[zc];show p 0*- r=_;rw[mul_neg]
theorem yH(r:K)(p:Ser K)(n:Nat):cv p (mon r) (n+1)=p n-p (n+1)*r:=by
 rw[pn];unfold cv;rw[ij,ij,eh (n:=n) (fun i _=>by unfold mon;rw[if_neg byO,if_neg byO,zero_mul])];show-r*p (n+1)+(1*p n+0)=_;exact(show(((-r)*(p (n+1)))+((1*(p n))+0))=((p n)-((p (n+1))*r)) from dV [r,(p (n+1)),(p n)] (.add (.mul (.neg (.v 0)) (.v 1)) (.add (.mul .one (.v 2)) .zero)) (.add (.v 2) (.neg (.mul (.v 1) (.v 0)))) rfl)
def gp(rs:Nat->K):Nat->Ser K
 | 0=>s1
 | n+1=>cv (gp rs n) (mon (rs n))
theorem tC(rs:Nat->K):∀n,dg (gp rs n) n
 | 0=>Jp
 | n+1=>wE (tC rs n) (DR _)
theorem De(rs:Nat->K):∀n,gp rs n n=1
 | 0=>rfl
 | n+1=>by
  show cv (gp rs n) (mon (rs n)) (n+1)=1;rw[yH,De rs n,tC rs n (n+1) byO,zero_mul];exact(show(1-0)=1 from dV [((1:K))] (.add .one (.neg .zero)) .one rfl)
def p7(rs:Nat->K)(n:Nat):List K:=tab (n+1) (gp rs n)
theorem qq(rs:Nat->K)(n:Nat):(p7 rs n).length=n+1:=eC _ _
theorem uO(rs:Nat->K)(n:Nat):co (p7 rs n)=gp rs n:=by
 funext i;unfold p7;rw[kl];split
 ·rfl
 ·exact(tC rs n i byO).symm
theorem wR{rs rs':Nat->K}:∀{n:Nat},(∀i,i<n->rs i=rs' i)->gp rs n=gp rs' n
 | 0,_=>rfl
 | n+1,h=>by rw[gp,gp,wR (fun i hi=>h i byO),h n byO]
theorem NI(r x:K):pv (mon r) 1 x=x-r:=by
 unfold pv;rw[cD,zE];show-r*1+1*pw x 1=_;rw[vC];exact(show(((-r)*1)+(1*x))=(x-r) from dV [r,x] (.add (.mul (.neg (.v 0)) .one) (.mul .one (.v 1))) (.add (.v 1) (.neg (.v 0))) rfl)
theorem rY(rs:Nat->K):∀n i,i<n->pv (gp rs n) n (rs i)=0
 | 0,i,h=>by omega
 | n+1,i,h=>by
  have:=xI (tC rs n) (DR (rs n)) (rs i);show pv (cv (gp rs n) (mon (rs n))) (n+1) (rs i)=0;rw[this,NI];by_cases e:i=n
  ·rw[e,sub_self,mul_zero]
  ·rw[rY rs n i byO,zero_mul]
end
end Go.RS
namespace Go.RS
section
variable {K:Type}[Fd K]
def Fv(rt:Nat->K)(r:Nat)(w:List K):Prop:=∀i,i<r->mh w (rt i)=0
theorem sj{p:Ser K}{m:Nat}{xs:List K}(hp:dg p m)(hl:xs.length=m+1)(hn:xs.Nodup)(h0:∀x ∈ xs,x≠0)(hr:∀x ∈ xs,pv p m x=0):∀i,p i=0:=by
 have hlen:(xs.take m).length=m:=by simp;omega
 have hsub:∀x ∈ xs.take m,x ∈ xs:=fun x hx=>List.mem_of_mem_take hx;have hinvn:((xs.take m).map inv).Nodup:=by
  rw[List.nodup_iff_pairwise_ne,List.pairwise_map];refine List.Pairwise.imp_of_mem ?_ (List.nodup_iff_pairwise_ne.1 (hn.sublist (List.take_sublist m xs)));intro a b ha hb hne e;apply hne;rw[<-inv_inv (h0 a (hsub a ha)),e,inv_inv (h0 b (hsub b hb))]
 obtain⟨q,hq,hpq⟩:=tl ((xs.take m).map inv) (xs.take m) p 0 (by simp) hinvn (fun i h h'=>by
  rw[List.getElem_map];exact inv_mul (h0 _ (hsub _ (List.getElem_mem h')))) (by rw[ay₀,hlen];exact hp) (fun x hx=>by rw[ay₀,hlen];exact hr x (hsub x hx))
 have hm:m<xs.length:=byO;have hnot:inv xs[m] ∉ (xs.take m).map inv:=by
  intro hm2;obtain⟨x,hx,e⟩:=List.mem_map.1 hm2;have e2:x=xs[m]:=by rw[<-inv_inv (h0 x (hsub x hx)),e,inv_inv (h0 _ (List.getElem_mem hm))]
  obtain⟨i,hi,e3⟩:=List.getElem_of_mem hx;rw[List.getElem_take,e2]at e3;have:=(List.getElem_inj hn).1 e3;simp at hi;omega
 have hne:=rZ hnot (inv_mul (h0 _ (List.getElem_mem hm)));rw[ay₀,hlen]at hne;have hdl:=uQ ((xs.take m).map inv);rw[ay₀,hlen]at hdl;have hv:=xI hdl hq xs[m];rw[<-hpq,Nat.add_zero,hr _ (List.getElem_mem hm)]at hv;have hq0:q 0=0:=by
  rcases mul_eq_zero hv.symm with h|h
  ·exact absurd h hne
  ·unfold pv at h
   rw[zE,gD,mul_one]at h;exact h
 intro i;rw[hpq];refine eh fun j hj=>?_;by_cases e:i-j=0
 ·rw[e,hq0,mul_zero]
 ·rw[hq (i-j) byO,mul_zero]
theorem wV(w:List K)(x:K):mh w x=sm w.length (fun j=>co w (w.length-1-j)*pw x j):=by
 rw[Gw,vO];refine bO fun i hi=>?_;rw[show w.length-1-(w.length-1-i)=i by omega]
theorem GW{rt:Nat->K}{r:Nat}{w w':List K}(hr:1<=r)(hd:∀i j,i<r->j<r->rt i=rt j->i=j)(h0:∀i,i<r->rt i≠0)(hw:Fv rt r w)(hw':Fv rt r w')(hl:w.length=w'.length)(hlr:r<=w.length)(hp:∀i,i<w.length-r->co w i=co w' i):w=w':=by
 have hz:=sj (p:=fun j=>if j<r then co w (w.length-1-j)-co w' (w.length-1-j) else 0) (m:=r-1) (xs:=(List.range r).map rt)
  (fun i hi=>if_neg byO) (by simp;omega) (by
   rw[List.nodup_iff_pairwise_ne,List.pairwise_map];refine List.Pairwise.imp_of_mem ?_ (List.nodup_iff_pairwise_ne.1 List.nodup_range);intro a b ha hb hne e;exact hne (hd a b (by simpa using ha) (by simpa using hb) e)) (by
   intro x hx;obtain⟨i,hi,rfl⟩:=List.mem_map.1 hx;exact h0 i (by simpa using hi)) (by
   intro x hx;obtain⟨i,hi,rfl⟩:=List.mem_map.1 hx;have hi:i<r:=by simpa using hi
   have e1:=hw i hi;have e2:=hw' i hi;rw[wV]at e1 e2;have e3:sm w.length (fun j=>(if j<r then co w (w.length-1-j)-co w' (w.length-1-j) else 0)*pw (rt i) j)=0:=by
    have:sm w.length (fun j=>(if j<r then co w (w.length-1-j)-co w' (w.length-1-j) else 0)*pw (rt i) j)=sm w.length (fun j=>co w (w.length-1-j)*pw (rt i) j+- (co w' (w'.length-1-j)*pw (rt i) j)):=by
     refine bO fun j hj=>?_;by_cases hjr:j<r
     ·rw[if_pos hjr,hl]
      exact(show(((co w (w'.length-1-j))-(co w' (w'.length-1-j)))*(pw (rt i) j))=(((co w (w'.length-1-j))*(pw (rt i) j))+(-((co w' (w'.length-1-j))*(pw (rt i) j)))) from dV [(co w (w'.length-1-j)),(co w' (w'.length-1-j)),(pw (rt i) j)] (.mul (.add (.v 0) (.neg (.v 1))) (.v 2)) (.add (.mul (.v 0) (.v 2)) (.neg (.mul (.v 1) (.v 2)))) rfl)
     ·rw[if_neg hjr,hp (w.length-1-j) byO,hl]
      exact(show(0*(pw (rt i) j))=(((co w' (w'.length-1-j))*(pw (rt i) j))+(-((co w' (w'.length-1-j))*(pw (rt i) j)))) from dV [(co w' (w'.length-1-j)),(pw (rt i) j)] (.mul .zero (.v 1)) (.add (.mul (.v 0) (.v 1)) (.neg (.mul (.v 0) (.v 1)))) rfl)
    rw[this,ry,e1,<-FU];rw[<-hl]at e2;have e4:sm w.length (fun j=>co w' (w'.length-1-j)*pw (rt i) j)=0:=by rw[<-hl];exact e2
    rw[e4];exact(show(0+(-0))=0 from dV [((1:K))] (.add .zero (.neg .zero)) .zero rfl)
   unfold pv;rw[show r-1+1=r by omega];rw[pA (m:=r) hlr (fun j h1 h2=>by rw[if_neg byO,zero_mul])]at e3;exact e3)
 refine HJ hl fun i hi=>?_;by_cases h:i<w.length-r
 ·exact hp i h
 ·have:=hz (w.length-1-i)
  rw[if_pos byO,show w.length-1-(w.length-1-i)=i by omega]at this;exact sub_eq_zero this
theorem GY{rt:Nat->K}{r n:Nat}{data w S R:List K}{Q:Ser K}{N:Nat}(hn:n=data.length+r)(hS:∀k,co S k=if r<=k/\k<n then co data (n-1-k) else 0)(he:∀k,co S k=cv Q (gp rt r) k+co R k)(hR:∀k,r<=k->co R k=0)(hQ:∀k,N<=k->Q k=0)(hwl:w.length=n)(hw:∀i,i<data.length->co w i=co data i)(hw2:∀k,k<r->co w (n-1-k)=- co R k):Fv rt r w:=by
 intro i hi;rw[wV,hwl];have e1:sm n (fun j=>co w (n-1-j)*pw (rt i) j)=sm n (fun j=>cv Q (gp rt r) j*pw (rt i) j):=by
  refine bO fun j hj=>?_;congr 1;have e:=he j;rw[hS j]at e;by_cases hjr:j<r
  ·rw[if_neg byO]at e
   rw[hw2 j hjr];have:cv Q (gp rt r) j+co R j=0:=e.symm;rw[add_comm]at this;exact jf this
  ·rw[if_pos byO,hR j byO,add_zero]at e
   rw[hw (n-1-j) byO,e]
 have hdQ:dg Q N:=fun k hk=>hQ k byO;have hz:∀k,n<=k->cv Q (gp rt r) k=0:=by
  intro k hk;have e:=he k;rw[hS k,if_neg byO,hR k byO,add_zero]at e;exact e.symm
 have e2:sm n (fun j=>cv Q (gp rt r) j*pw (rt i) j)=pv (cv Q (gp rt r)) (N+r) (rt i):=by
  unfold pv;rcases Nat.le_total n (N+r+1)with h|h
  ·exact(pA h fun k h1 h2=>by rw[hz k h1,zero_mul]).symm
  ·exact pA h fun k h1 h2=>by rw[wE hdQ (tC rt r) k byO,zero_mul]
 rw[e1,e2,xI hdQ (tC rt r),rY rt r i hi,mul_zero]
end
end Go.RS
namespace Go.RS
section
variable {K:Type}[Fd K]
end
end Go.RS
namespace Go.RS
section
variable {K:Type}[Fd K]
def sel(φ:Nat->Bool)(n:Nat):List Nat:=(List.range n).filter φ
def gam(X:Nat->K)(er:Nat->Bool):Nat->Ser K
 | 0=>s1
 | i+1=>if er i=true then cv (lin (X i)) (gam X er i) else gam X er i
def isR(X:Nat->K)(er:Nat->Bool)(lam:List K)(i:Nat):Bool:=!er i&&decide (hor lam (inv (X i))=0)
def Jk(X:Nat->K)(er:Nat->Bool)(lam:List K)(i:Nat):Bool:=er i || isR X er lam i
def RL(X:Nat->K)(b r:Nat)(S:Ser K)(P:List Nat)(i:Nat):K:=
 hor (tab r (cv S (rH (P.map X)))) (inv (X i))*inv (pw (X i) b*pv (rH ((P.filter fun k=>decide (k≠i)).map X)) (P.length-1) (inv (X i)))
structure Places (X:Nat->K)(n:Nat):Prop where
 ne:∀i,i<n->X i≠0
 inj:∀i j,i<n->j<n->X i=X j->i=j
theorem Places.nodup{X:Nat->K}{n:Nat}(h:Places X n){l:List Nat}(hl:l.Nodup)(hb:∀i ∈ l,i<n):(l.map X).Nodup:=by
 rw[List.nodup_iff_pairwise_ne,List.pairwise_map];refine List.Pairwise.imp_of_mem ?_ (List.nodup_iff_pairwise_ne.1 hl);intro a b ha hb' hne e;exact hne (h.inj a b (hb a ha) (hb b hb') e)
end
end Go.RS
namespace Go.RS
section
variable {K:Type}[Fd K]
def plc(g:K)(n i:Nat):K:=pw g (n-1-i)
def syS(g:K)(r b:Nat)(w:List K):Ser K:=co (tab r (fun i=>mh w (pw g (b+i))))
def sC(er:Nat->Bool)(n:Nat):Nat:=(sel er n).length
def QX(X:Nat->K)(er:Nat->Bool)(n r:Nat)(S:Ser K):List K:=(tab r (cv S (gam X er n))).drop (sC er n)
def Rd(s:List K):List K:=trim (tab (bml (co s) s.length).1 (Reg.run (co s) s.length).C)
def HH(X:Nat->K)(er:Nat->Bool)(n r:Nat)(S:Ser K):List K:=Rd (QX X er n r S)
def R3(g:K)(r b:Nat)(w:List K)(er:Nat->Bool):List K:=
 let X:=plc g w.length
 let S:=syS g r b w
 let lam:=HH X er w.length r S
 tab w.length (fun i=>if Jk X er lam i=true then co w i-RL X b r S (sel (Jk X er lam) w.length) i else co w i)
def R7(g:K)(r b:Nat)(w:List K):Prop:=∀k,k<r->mh w (pw g (b+k))=0
structure DecOK (g:K)(r b:Nat)(w:List K)(er:Nat->Bool):Prop where
 few:sC er w.length<=r
 cap:2*((HH (plc g w.length) er w.length r (syS g r b w)).length-1)+sC er w.length<=r
 num:(sel (isR (plc g w.length) er (HH (plc g w.length) er w.length r (syS g r b w))) w.length).length=(HH (plc g w.length) er w.length r (syS g r b w)).length-1
 cw:R7 g r b (R3 g r b w er)
end
end Go.RS
namespace Go.RS
def f7:FD:=⟨7,0⟩
theorem pr7:Pr 7:=⟨by decide,fun d h1 h2=>by
 have:d=2\/d=3\/d=4\/d=5\/d=6:=byO;rcases this with rfl|rfl|rfl|rfl|rfl<;>decide⟩
instance ok7:OkC f7:=⟨.inl ⟨rfl,by decide,by decide,pr7⟩⟩
def e7(n:Nat)(h:n<7:=by decide):El f7:=⟨n,h⟩
end Go.RS
