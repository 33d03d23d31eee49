/- Lemmas. -/
import Derived.Test.YtmnlgdpdgjbfgaaGreatD1
import Derived.KernelRfl
set_option linter.all false
namespace Go.RS
class Fd (K:Type) where
 add:K->K->K
 mul:K->K->K
 neg:K->K
 zero:K
 one:K
 inv:K->K
 add_assoc':∀a b c,add (add a b) c=add a (add b c)
 add_comm':∀a b,add a b=add b a
 add_zero':∀a,add a zero=a
 add_neg':∀a,add a (neg a)=zero
 mul_assoc':∀a b c,mul (mul a b) c=mul a (mul b c)
 mul_comm':∀a b,mul a b=mul b a
 mul_one':∀a,mul a one=a
 mul_add':∀a b c,mul a (add b c)=add (mul a b) (mul a c)
 mul_inv':∀a,a≠zero->mul a (inv a)=one
 one_ne':one≠zero
 dec:DecidableEq K
section
variable {K:Type}[Fd K]
instance (priority:=50):Add K:=⟨Fd.add⟩
instance (priority:=50):Mul K:=⟨Fd.mul⟩
instance (priority:=50):Neg K:=⟨Fd.neg⟩
instance (priority:=50):Sub K:=⟨fun a b=>Fd.add a (Fd.neg b)⟩
instance (priority:=50):OfNat K 0:=⟨Fd.zero⟩
instance (priority:=50):OfNat K 1:=⟨Fd.one⟩
instance (priority:=50):DecidableEq K:=Fd.dec
def inv(a:K):K:=Fd.inv a
theorem add_assoc(a b c:K):a+b+c=a+(b+c):=Fd.add_assoc' a b c
theorem add_comm(a b:K):a+b=b+a:=Fd.add_comm' a b
theorem add_zero(a:K):a+0=a:=Fd.add_zero' a
theorem zero_add(a:K):0+a=a:=by rw[add_comm,add_zero]
theorem add_neg(a:K):a+-a=0:=Fd.add_neg' a
theorem jt(a:K):-a+a=0:=by rw[add_comm,add_neg]
theorem sub_def(a b:K):a-b=a+-b:=rfl
theorem mul_assoc(a b c:K):a*b*c=a*(b*c):=Fd.mul_assoc' a b c
theorem mul_comm(a b:K):a*b=b*a:=Fd.mul_comm' a b
theorem mul_one(a:K):a*1=a:=Fd.mul_one' a
theorem one_mul(a:K):1*a=a:=by rw[mul_comm,mul_one]
theorem mul_add(a b c:K):a*(b+c)=a*b+a*c:=Fd.mul_add' a b c
theorem add_mul(a b c:K):(a+b)*c=a*c+b*c:=by rw[mul_comm,mul_add,mul_comm c a,mul_comm c b]
theorem gN{a:K}(h:a≠0):a*inv a=1:=Fd.mul_inv' a h
theorem inv_mul{a:K}(h:a≠0):inv a*a=1:=by rw[mul_comm,gN h]
theorem ig:(1:K)≠0:=Fd.one_ne'
theorem add_left_cancel{a b c:K}(h:a+b=a+c):b=c:=by
 have:-a+(a+b)=-a+(a+c):=by rw[h]
 rwa [<-add_assoc,<-add_assoc,jt,zero_add,zero_add]at this
theorem mul_zero(a:K):a*0=0:=by
 have:a*0+a*0=a*0+0:=by rw[<-mul_add,add_zero,add_zero]
 exact add_left_cancel this
theorem zero_mul(a:K):0*a=0:=by rw[mul_comm,mul_zero]
theorem j5{a b:K}(h:a+b=0):-a=b:=by
 apply add_left_cancel (a:=a);rw[add_neg,h]
theorem neg_mul(a b:K):-a*b=-(a*b):=by
 symm;apply j5;rw[<-add_mul,add_neg,zero_mul]
theorem mul_neg(a b:K):a*-b=-(a*b):=by rw[mul_comm,neg_mul,mul_comm]
theorem neg_neg(a:K):- -a=a:=j5 (jt a)
theorem neg_zero:-(0:K)=0:=j5 (add_zero 0)
theorem neg_add(a b:K):-(a+b)=-a+-b:=by
 apply j5;rw[add_assoc,<-add_assoc b,add_comm b,add_assoc (-a),add_neg,add_zero,add_neg]
theorem sub_self(a:K):a-a=0:=add_neg a
theorem sub_eq_zero{a b:K}(h:a-b=0):a=b:=by
 have:a-b+b=0+b:=by rw[h]
 rwa [sub_def,add_assoc,jt,add_zero,zero_add]at this
theorem mul_eq_zero{a b:K}(h:a*b=0):a=0\/b=0:=by
 by_cases ha:a=0
 ·exact .inl ha
 ·right
  have:inv a*(a*b)=inv a*0:=by rw[h]
  rwa [<-mul_assoc,inv_mul ha,one_mul,mul_zero]at this
theorem mul_ne_zero{a b:K}(ha:a≠0)(hb:b≠0):a*b≠0:=fun h=>(mul_eq_zero h).elim ha hb
theorem mul_left_cancel{a b c:K}(ha:a≠0)(h:a*b=a*c):b=c:=by
 have:inv a*(a*b)=inv a*(a*c):=by rw[h]
 rwa [<-mul_assoc,<-mul_assoc,inv_mul ha,one_mul,one_mul]at this
theorem lT{a b:K}(h:a*b=1):inv a=b:=by
 have ha:a≠0:=by rintro rfl;rw[zero_mul]at h;exact ig h.symm
 apply mul_left_cancel ha;rw[gN ha,h]
theorem inv_inv{a:K}(ha:a≠0):inv (inv a)=a:=lT (inv_mul ha)
theorem neg_ne_zero{a:K}(h:a≠0):-a≠0:=fun e=>h (by rw[<-neg_neg a,e,neg_zero])
def pw(a:K):Nat->K
 | 0=>1
 | n+1=>pw a n*a
theorem fF(a:K):pw a 0=1:=rfl
theorem eD(a:K)(n:Nat):pw a (n+1)=pw a n*a:=rfl
theorem oJ(a:K):pw a 1=a:=by rw[eD,fF,one_mul]
theorem ff(a:K)(m:Nat):∀n,pw a (m+n)=pw a m*pw a n
 | 0=>by rw[fF,mul_one];rfl
 | n+1=>by rw[<-Nat.add_assoc,eD,ff a m n,eD,mul_assoc]
theorem dZ(a:K)(m:Nat):∀n,pw a (m*n)=pw (pw a m) n
 | 0=>rfl
 | n+1=>by rw[Nat.mul_succ,ff,dZ a m n,eD]
theorem gn:∀n,pw (1:K) n=1
 | 0=>rfl
 | n+1=>by rw[eD,gn n,mul_one]
theorem oE(a b:K):∀n,pw (a*b) n=pw a n*pw b n
 | 0=>by rw[fF,fF,fF,mul_one]
 | n+1=>by rw[eD,eD,eD,oE a b n,mul_assoc,mul_assoc,<-mul_assoc (pw b n) a b,mul_comm (pw b n) a,mul_assoc a]
theorem cL{a:K}(h:a≠0):∀n,pw a n≠0
 | 0=>ig
 | n+1=>mul_ne_zero (cL h n) h
end
inductive RE where
 | v (n:Nat)
 | zero
 | one
 | add (a b:RE)
 | mul (a b:RE)
 | neg (a:RE)
abbrev mC:=List Nat
abbrev Pol:=List (Int×mC)
def Av:mC->mC->Ordering
 | [],[]=>.eq
 | [],_=>.lt
 | _,[]=>.gt
 | a::x,b::y=>if a<b then .lt else if b<a then .gt else Av x y
def Ax(a:Nat):mC->mC
 | []=>[a]
 | b::y=>if a<=b then a::b::y else b::Ax a y
def De:mC->mC->mC
 | [],y=>y
 | a::x,y=>Ax a (De x y)
def oy(c:Int)(m:mC):Pol->Pol
 | []=>if c=0 then[] else[(c,m)]
 | (d,n)::r=>match Av m n with
  | .lt=>if c=0 then(d,n)::r else(c,m)::(d,n)::r
  | .eq=>if c+d=0 then r else(c+d,n)::r
  | .gt=>(d,n)::oy c m r
def BE:Pol->Pol->Pol
 | [],q=>q
 | (c,m)::p,q=>oy c m (BE p q)
def sv(c:Int)(m:mC):Pol->Pol
 | []=>[]
 | (d,n)::r=>oy (c*d) (De m n) (sv c m r)
def ED:Pol->Pol->Pol
 | [],_=>[]
 | (c,m)::p,q=>BE (sv c m q) (ED p q)
def RE.norm:RE->Pol
 | .v n=>[(1,[n])]
 | .zero=>[]
 | .one=>[(1,[])]
 | .add a b=>BE a.norm b.norm
 | .mul a b=>ED a.norm b.norm
 | .neg a=>sv (-1) [] a.norm
section
variable {K:Type}[Fd K]
def RE.den(env:List K):RE->K
 | .v n=>env.getD n 0
 | .zero=>0
 | .one=>1
 | .add a b=>a.den env+b.den env
 | .mul a b=>a.den env*b.den env
 | .neg a=>- a.den env
def nsm(a:K):Nat->K
 | 0=>0
 | n+1=>nsm a n+a
def ism(a:K):Int->K
 | .ofNat n=>nsm a n
 | .negSucc n=>- nsm a (n+1)
theorem nR(a:K)(m:Nat):∀n,nsm a (m+n)=nsm a m+nsm a n
 | 0=>by rw[show nsm a 0=0 from rfl,add_zero];rfl
 | n+1=>by rw[<-Nat.add_assoc,show nsm a (m+n+1)=nsm a (m+n)+a from rfl,nR a m n,add_assoc];rfl
theorem zG(a:K)(m n:Nat):ism a (Int.subNatNat m n)=nsm a m+- nsm a n:=by
 rcases Nat.lt_or_ge m n with h|h
 ·obtain⟨k,rfl⟩:∃k,n=m+k+1:=⟨n-m-1,byO⟩
  rw[Int.subNatNat_of_lt byO,show m+k+1-m=k+1 by omega];show-nsm a (k+1)=_;rw[Nat.add_assoc,nR a m (k+1),neg_add,<-add_assoc,add_neg,zero_add]
 ·obtain⟨k,rfl⟩:∃k,m=n+k:=⟨m-n,byO⟩
  rw[Int.subNatNat_of_le byO,show n+k-n=k by omega];show nsm a k=_;rw[nR,add_comm (nsm a n),add_assoc,add_neg,add_zero]
theorem tz(a:K)(m n:Int):ism a (m+n)=ism a m+ism a n:=by
 cases m with
 | ofNat m=>
  cases n with
  | ofNat n=>exact nR a m n
  | negSucc n=>exact zG a m (n+1)
 | negSucc m=>
  cases n with
  | ofNat n=>rw[add_comm];exact zG a n (m+1)
  | negSucc n=>
   show-nsm a (m+n+1+1)=- nsm a (m+1)+- nsm a (n+1);rw[<-neg_add,<-nR,show m+n+1+1=m+1+(n+1) by omega]
theorem km(a:K):ism a 0=0:=rfl
theorem uB(a:K):ism a 1=a:=zero_add a
theorem zF(a:K)(n:Int):ism a (-n)=- ism a n:=by
 symm;apply j5
 rw[<-tz,show n+-n=0 by omega,km]
theorem uO(a b:K):∀n,nsm (a*b) n=nsm a n*b
 | 0=>by rw[show nsm (a*b) 0=0 from rfl,show nsm a 0=0 from rfl,zero_mul]
 | n+1=>by rw[show nsm (a*b) (n+1)=nsm (a*b) n+a*b from rfl,uO a b n,<-add_mul];rfl
theorem zE(a b:K)(n:Int):ism (a*b) n=ism a n*b:=by
 cases n with
 | ofNat n=>exact uO a b n
 | negSucc n=>show-nsm (a*b) (n+1)=- nsm a (n+1)*b;rw[uO,neg_mul]
theorem kl(a:K)(m:Int):∀n:Nat,ism a (m*n)=nsm (ism a m) n
 | 0=>by rw[show m*((0:Nat):Int)=0 by simp,km];rfl
 | n+1=>by rw[show m*((n+1:Nat):Int)=m*n+m by rw[ap₀,Int.mul_add];simp,tz,kl a m n];rfl
theorem Fx(a:K)(m n:Int):ism a (m*n)=ism (ism a m) n:=by
 cases n with
 | ofNat n=>exact kl a m n
 | negSucc n=>
  rw[show m*Int.negSucc n=-(m*((n+1:Nat):Int)) by rw[<-Int.mul_neg];rfl,zF,kl];rfl
theorem uA(a b:K)(m n:Int):ism (a*b) (m*n)=ism a m*ism b n:=by
 rw[Fx,zE,mul_comm (ism a m),zE,mul_comm]
def mc(env:List K):mC->K
 | []=>1
 | a::x=>env.getD a 0*mc env x
def jw(env:List K):Pol->K
 | []=>0
 | (c,m)::r=>ism (mc env m) c+jw env r
theorem zQ:∀(x y:mC),Av x y=.eq->x=y
 | [],[],_=>rfl
 | [],_::_,h=>by simp[Av]at h
 | _::_,[],h=>by simp[Av]at h
 | a::x,b::y,h=>by
  simp only[Av]at h;split at h
  ·cases h
  ·split at h
   ·cases h
   ·rw[zQ x y h,show a=b by omega]
theorem wF(env:List K)(a:Nat):∀(y:mC),mc env (Ax a y)=env.getD a 0*mc env y
 | []=>rfl
 | b::y=>by
  rw[Ax];split
  ·rfl
  ·rw[show mc env (b::Ax a y)=env.getD b 0*mc env (Ax a y) from rfl,wF env a y,<-mul_assoc,mul_comm (env.getD b 0),mul_assoc];rfl
theorem wG(env:List K):∀(x y:mC),mc env (De x y)=mc env x*mc env y
 | [],y=>by rw[De,show mc env []=1 from rfl,one_mul]
 | a::x,y=>by rw[De,wF,wG env x y,<-mul_assoc];rfl
theorem oH(env:List K)(c:Int)(m:mC):∀p,jw env (oy c m p)=ism (mc env m) c+jw env p
 | []=>by
  rw[oy];split
  ·rename_i h;subst h;rw[km,zero_add]
  ·rfl
 | (d,n)::r=>by
  rw[oy];split
  ·split
   ·rename_i h;subst h;rw[km,zero_add]
   ·rfl
  ·rename_i h
   have:=zQ _ _ h;subst this;rw[show jw env ((d,m)::r)=ism (mc env m) d+jw env r from rfl,<-add_assoc,<-tz];split
   ·rename_i h;rw[h,km,zero_add]
   ·rfl
  ·rw[show jw env ((d,n)::oy c m r)=ism (mc env n) d+jw env (oy c m r) from rfl,oH env c m r,<-add_assoc,add_comm (ism (mc env n) d),add_assoc];rfl
theorem qo(env:List K):∀p q,jw env (BE p q)=jw env p+jw env q
 | [],q=>by rw[BE,show jw env []=0 from rfl,zero_add]
 | (c,m)::p,q=>by rw[BE,oH,qo env p q,<-add_assoc];rfl
theorem oI(env:List K)(c:Int)(m:mC):∀p,jw env (sv c m p)=ism (mc env m) c*jw env p
 | []=>by rw[sv,show jw env []=0 from rfl,mul_zero]
 | (d,n)::r=>by rw[sv,oH,oI env c m r,wG,uA,<-mul_add];rfl
theorem wU(env:List K):∀p q,jw env (ED p q)=jw env p*jw env q
 | [],q=>by rw[ED,show jw env []=0 from rfl,zero_mul]
 | (c,m)::p,q=>by rw[ED,qo,oI,wU env p q,<-add_mul];rfl
theorem RE.norm_den(env:List K):∀e:RE,jw env e.norm=e.den env
 | .v n=>by
  show ism (env.getD n 0*1) 1+0=env.getD n 0;rw[add_zero,uB,mul_one]
 | .zero=>rfl
 | .one=>by
  show ism (1:K) 1+0=1;rw[add_zero,uB]
 | .add a b=>by rw[RE.norm,qo,RE.norm_den env a,RE.norm_den env b];rfl
 | .mul a b=>by rw[RE.norm,wU,RE.norm_den env a,RE.norm_den env b];rfl
 | .neg a=>by
  rw[RE.norm,oI,RE.norm_den env a];show ism (1:K) (-1)*_=- _;rw[zF,uB,neg_mul,one_mul]
def sw:Pol->Pol->Bool
 | [],[]=>true
 | (c,m)::p,(d,n)::q=>c==d&&m==n&&sw p q
 | _,_=>false
theorem wV:∀p q,sw p q=true->p=q
 | [],[],_=>rfl
 | [],_::_,h=>by simp[sw]at h
 | _::_,[],h=>by simp[sw]at h
 | (c,m)::p,(d,n)::q,h=>by
  simp only[sw,ac₀,beq_iff_eq]at h;rw[h.1.1,h.1.2,wV p q h.2]
theorem bu(env:List K)(a b:RE)(h:sw a.norm b.norm=true):a.den env=b.den env:=by
 rw[<-RE.norm_den,<-RE.norm_den,wV _ _ h]
end
end Go.RS
namespace Go.RS
section
variable {K:Type}[Fd K]
def sm:Nat->(Nat->K)->K
 | 0,_=>0
 | n+1,f=>sm n f+f n
theorem cG(n:Nat)(f:Nat->K):sm (n+1) f=sm n f+f n:=rfl
theorem PQ(f:Nat->K):sm 0 f=0:=rfl
theorem Eb(f:Nat->K):sm 1 f=f 0:=zero_add _
theorem bD{f g:Nat->K}:∀{n:Nat},(∀i,i<n->f i=g i)->sm n f=sm n g
 | 0,_=>rfl
 | n+1,h=>by rw[cG,cG,bD (fun i hi=>h i byO),h n byO]
theorem eL{f:Nat->K}:∀{n:Nat},(∀i,i<n->f i=0)->sm n f=0
 | 0,_=>rfl
 | n+1,h=>by rw[cG,eL (fun i hi=>h i byO),h n byO,add_zero]
theorem oP(f g:Nat->K):∀n,sm n (fun i=>f i+g i)=sm n f+sm n g
 | 0=>(add_zero 0).symm
 | n+1=>by
  rw[cG,cG,cG,oP f g n];exact(show(((sm n f)+(sm n g))+((f n)+(g n)))=(((sm n f)+(f n))+((sm n g)+(g n))) from bu [(sm n f),(sm n g),(f n),(g n)] (.add (.add (.v 0) (.v 1)) (.add (.v 2) (.v 3))) (.add (.add (.v 0) (.v 2)) (.add (.v 1) (.v 3))) rfl)
theorem kD(a:K)(f:Nat->K):∀n,a*sm n f=sm n (fun i=>a*f i)
 | 0=>mul_zero a
 | n+1=>by rw[cG,cG,mul_add,kD a f n]
theorem n8(a:K)(f:Nat->K)(n:Nat):sm n f*a=sm n (fun i=>f i*a):=by
 rw[mul_comm,kD];exact bD fun i _=>mul_comm _ _
theorem yP(f:Nat->K):∀n,-sm n f=sm n (fun i=>- f i)
 | 0=>neg_zero
 | n+1=>by rw[cG,cG,neg_add,yP f n]
theorem lA(f:Nat->K):∀n,sm (n+1) f=f 0+sm n (fun i=>f (i+1))
 | 0=>by rw[cG,PQ,PQ,zero_add,add_zero]
 | n+1=>by rw[cG,lA f n,cG,add_assoc]
theorem yQ(f:Nat->K):∀n,sm n f=sm n (fun i=>f (n-1-i))
 | 0=>rfl
 | n+1=>by
  rw[lA (fun i=>f (n+1-1-i)),cG,yQ f n,add_comm];congr 1;exact bD fun i _=>by rw[show n+1-1-(i+1)=n-1-i by omega]
theorem rP(f:Nat->K)(m:Nat):∀n,sm (m+n) f=sm m f+sm n (fun i=>f (m+i))
 | 0=>(add_zero _).symm
 | n+1=>by rw[<-Nat.add_assoc,cG,rP f m n,cG,add_assoc]
theorem jb{f:Nat->K}{k:Nat}:∀{n:Nat},k<n->(∀i,i<n->i≠k->f i=0)->sm n f=f k
 | 0,h,_=>by omega
 | n+1,h,hz=>by
  rw[cG];by_cases e:k=n
  ·subst e
   rw[eL (fun i hi=>hz i byO byO),zero_add]
  ·rw[jb byO (fun i hi=>hz i byO),hz n byO (fun h=>e h.symm),add_zero]
theorem jR{f:Nat->K}{m n:Nat}(h:m<=n)(hz:∀i,m<=i->i<n->f i=0):sm n f=sm m f:=by
 obtain⟨k,rfl⟩:∃k,n=m+k:=⟨n-m,byO⟩;rw[rP,eL (n:=k) (fun i hi=>hz _ byO byO),add_zero]
theorem yR(f:Nat->Nat->K):∀n,sm (n+1) (fun k=>sm (k+1) (fun i=>f i (k-i)))=sm (n+1) (fun i=>sm (n-i+1) (fun j=>f i j))
 | 0=>rfl
 | n+1=>by
  rw[cG,yR f n,cG (n+1) (fun i=>sm (n+1-i+1) (fun j=>f i j)),Nat.sub_self,Eb];have e:sm (n+1) (fun i=>sm (n+1-i+1) (fun j=>f i j))=sm (n+1) (fun i=>sm (n-i+1) (fun j=>f i j))+sm (n+1) (fun i=>f i (n+1-i)):=by
   rw[<-oP];refine bD fun i hi=>?_;rw[show n+1-i+1=(n-i+1)+1 by omega,cG,show n-i+1=n+1-i by omega]
  rw[e,cG (n+1) (fun i=>f i (n+1-i)),Nat.sub_self,add_assoc]
abbrev Ser(K:Type):=Nat->K
def cv(p q:Ser K):Ser K:=fun n=>sm (n+1) (fun i=>p i*q (n-i))
theorem dS(p q:Ser K):cv p q=cv q p:=by
 funext n;unfold cv;rw[yQ];refine bD fun i hi=>?_;rw[show n+1-1-i=n-i by omega,show n-(n-i)=i by omega,mul_comm]
theorem dM(p q r:Ser K):cv (cv p q) r=cv p (cv q r):=by
 funext n;unfold cv;have h:=yR (fun i j=>p i*q j*r (n-i-j)) n;have e1:sm (n+1) (fun k=>sm (k+1) (fun i=>p i*q (k-i))*r (n-k))=sm (n+1) (fun k=>sm (k+1) (fun i=>p i*q (k-i)*r (n-i-(k-i)))):=by
  refine bD fun k hk=>?_;rw[n8];refine bD fun i hi=>?_;rw[show n-i-(k-i)=n-k by omega]
 rw[e1,h];refine bD fun i hi=>?_;rw[kD];refine bD fun j hj=>?_;rw[mul_assoc]
theorem vQ(p q r:Ser K)(n:Nat):cv (fun i=>p i+q i) r n=cv p r n+cv q r n:=by
 unfold cv;rw[<-oP];exact bD fun i _=>add_mul _ _ _
theorem qA(p q r:Ser K)(n:Nat):cv r (fun i=>p i+q i) n=cv r p n+cv r q n:=by
 unfold cv;rw[<-oP];exact bD fun i _=>mul_add _ _ _
theorem sH(a:K)(p q:Ser K)(n:Nat):cv (fun i=>a*p i) q n=a*cv p q n:=by
 unfold cv;rw[kD];exact bD fun i _=>mul_assoc _ _ _
theorem C8(p q:Ser K)(n:Nat):cv (fun i=>- p i) q n=- cv p q n:=by
 unfold cv;rw[yP];exact bD fun i _=>neg_mul _ _
theorem kY{p p' q q':Ser K}{n:Nat}(h:∀i,i<=n->p i=p' i)(k:∀i,i<=n->q i=q' i):cv p q n=cv p' q' n:=by
 unfold cv;refine bD fun i hi=>?_;rw[h i byO,k (n-i) byO]
theorem pK(p q:Ser K):cv p q 0=p 0*q 0:=Eb _
def sh(m:Nat)(p:Ser K):Ser K:=fun n=>if m<=n then p (n-m) else 0
theorem ky{m n:Nat}(p:Ser K)(h:n<m):sh m p n=0:=by unfold sh;rw[if_neg byO]
theorem ja{m n:Nat}(p:Ser K)(h:m<=n):sh m p n=p (n-m):=by unfold sh;rw[if_pos h]
theorem JJ(m:Nat)(p q:Ser K):cv (sh m p) q=sh m (cv p q):=by
 funext n;by_cases h:m<=n
 ·rw[ja _ h]
  unfold cv;obtain⟨k,rfl⟩:∃k,n=m+k:=⟨n-m,byO⟩;rw[show m+k+1=m+(k+1) by omega,rP,eL (n:=m) (fun i hi=>by rw[ky _ hi,zero_mul]),zero_add,show m+k-m=k by omega];refine bD fun i hi=>?_;rw[ja _ byO,show m+i-m=i by omega,show m+k-(m+i)=k-i by omega]
 ·rw[ky _ byO]
  exact eL fun i hi=>by rw[ky _ byO,zero_mul]
def s1:Ser K:=fun n=>if n=0 then 1 else 0
theorem iT(p:Ser K):cv s1 p=p:=by
 funext n;unfold cv;rw[jb (k:=0) byO (fun i _ h=>by unfold s1;rw[if_neg h,zero_mul])];unfold s1;rw[if_pos rfl,one_mul,Nat.sub_zero]
def dg(p:Ser K)(d:Nat):Prop:=∀i,d<i->p i=0
theorem F5{p:Ser K}{d e:Nat}(h:dg p d)(he:d<=e):dg p e:=fun i hi=>h i byO
theorem Cg{p q:Ser K}{a b:Nat}(hp:dg p a)(hq:dg q b):dg (cv p q) (a+b):=by
 intro n hn;refine eL fun i hi=>?_;by_cases h:a<i
 ·rw[hp i h,zero_mul]
 ·rw[hq (n-i) byO,mul_zero]
def pv(p:Ser K)(d:Nat)(x:K):K:=sm (d+1) (fun i=>p i*pw x i)
theorem yG{p:Ser K}{d e:Nat}(h:dg p d)(he:d<=e)(x:K):pv p e x=pv p d x:=
 jR byO fun i h1 h2=>by rw[h i byO,zero_mul]
theorem nU{p q:Ser K}{a b:Nat}(hp:dg p a)(hq:dg q b)(x:K):pv (cv p q) (a+b) x=pv p a x*pv q b x:=by
 unfold pv cv;have e1:sm (a+b+1) (fun n=>sm (n+1) (fun i=>p i*q (n-i))*pw x n)=sm (a+b+1) (fun n=>sm (n+1) (fun i=>p i*pw x i*(q (n-i)*pw x (n-i)))):=by
  refine bD fun n hn=>?_;rw[n8];refine bD fun i hi=>?_;obtain⟨k,rfl⟩:∃k,n=i+k:=⟨n-i,byO⟩;rw[show i+k-i=k by omega,ff];exact(show(((p i)*(q k))*((pw x i)*(pw x k)))=(((p i)*(pw x i))*((q k)*(pw x k))) from bu [(p i),(q k),(pw x i),(pw x k)] (.mul (.mul (.v 0) (.v 1)) (.mul (.v 2) (.v 3))) (.mul (.mul (.v 0) (.v 2)) (.mul (.v 1) (.v 3))) rfl)
 rw[e1,yR (fun i j=>p i*pw x i*(q j*pw x j)),n8,jR (m:=a+1) byO (fun i h1 h2=>by
  refine eL fun j _=>?_;rw[hp i byO,zero_mul,zero_mul])]
 refine bD fun i hi=>?_;rw[kD,jR (m:=b+1) byO (fun j h1 h2=>by rw[hq j byO,zero_mul,mul_zero])]
def lin(X:K):Ser K:=fun n=>if n=0 then 1 else if n=1 then-X else 0
theorem kZ(X:K):dg (lin X) 1:=by
 intro i hi;unfold lin;rw[if_neg byO,if_neg byO]
theorem qx(X x:K):pv (lin X) 1 x=1-X*x:=by
 unfold pv lin;rw[cG,Eb,if_pos rfl,if_neg byO,if_pos rfl,fF,oJ,mul_one,neg_mul];rfl
theorem mT(X:K)(p:Ser K)(n:Nat):cv (lin X) p (n+1)=p (n+1)-X*p n:=by
 unfold cv;rw[lA,lA,eL (n:=n) (fun i _=>by unfold lin;rw[if_neg byO,if_neg byO,zero_mul])];unfold lin;rw[if_pos rfl,if_neg byO,if_pos rfl,one_mul,add_zero,neg_mul];rfl
theorem nD(X:K)(p:Ser K):cv (lin X) p 0=p 0:=by
 rw[pK];unfold lin;rw[if_pos rfl,one_mul]
def dl(X:K)(p:Ser K):Ser K:=fun n=>sm (n+1) (fun i=>p i*pw X (n-i))
theorem F7(X:K)(p:Ser K):dl X p 0=p 0:=by
 unfold dl;rw[Eb,fF,mul_one]
theorem F6(X:K)(p:Ser K)(n:Nat):dl X p (n+1)=X*dl X p n+p (n+1):=by
 unfold dl;rw[cG,Nat.sub_self,fF,mul_one,kD];congr 1;refine bD fun i hi=>?_;rw[show n+1-i=(n-i)+1 by omega,eD];exact(show((p i)*((pw X (n-i))*X))=(X*((p i)*(pw X (n-i)))) from bu [(p i),(pw X (n-i)),X] (.mul (.v 0) (.mul (.v 1) (.v 2))) (.mul (.v 2) (.mul (.v 0) (.v 1))) rfl)
theorem No(X:K)(p:Ser K):cv (lin X) (dl X p)=p:=by
 funext n;cases n with
 | zero=>rw[nD,F7]
 | succ n=>rw[mT,F6];exact(show(((X*dl X p n)+(p (n+1)))-(X*dl X p n))=(p (n+1)) from bu [(X*dl X p n),(p (n+1))] (.add (.add (.v 0) (.v 1)) (.neg (.v 0))) (.v 1) rfl)
theorem mM{x X:K}(h:X*x=1)(n:Nat):pw X n*pw x n=1:=by rw[<-oE,h,gn]
theorem Nt{X x:K}(h:X*x=1){p:Ser K}{d:Nat}(hp:dg p (d+1))(hr:pv p (d+1) x=0):dg (dl X p) d:=by
 have key:∀n,d+1<=n->dl X p n=pw X n*pv p (d+1) x:=by
  intro n hn;unfold dl pv;rw[jR (m:=d+1+1) byO (fun i h1 h2=>by rw[hp i byO,zero_mul]),kD];refine bD fun i hi=>?_;obtain⟨k,rfl⟩:∃k,n=k+i:=⟨n-i,byO⟩;rw[show k+i-i=k by omega,ff];have:=mM h i;have e:=(show(((pw X k)*(pw X i))*((p i)*(pw x i)))=(((p i)*(pw X k))*((pw X i)*(pw x i))) from bu [(pw X k),(pw X i),(p i),(pw x i)] (.mul (.mul (.v 0) (.v 1)) (.mul (.v 2) (.v 3))) (.mul (.mul (.v 2) (.v 0)) (.mul (.v 1) (.v 3))) rfl);rw[e,this,mul_one]
 intro i hi;rw[key i byO,hr,mul_zero]
def aX:List K->Ser K
 | []=>s1
 | X::l=>cv (lin X) (aX l)
theorem Ci:dg (s1:Ser K) 0:=by
 intro i hi;unfold s1;rw[if_neg byO]
theorem dt:∀l:List K,dg (aX l) l.length
 | []=>Ci
 | X::l=>by
  have:=Cg (kZ X) (dt l);rw[show 1+l.length=(X::l).length by simp;omega]at this;exact this
theorem j3:∀l:List K,aX l 0=1
 | []=>rfl
 | X::l=>by rw[aX,nD,j3 l]
theorem JW(x:K):pv s1 0 x=1:=by
 unfold pv;rw[Eb,fF,mul_one];rfl
theorem nV(X:K)(l:List K)(x:K):pv (aX (X::l)) (l.length+1) x=(1-X*x)*pv (aX l) l.length x:=by
 have:=nU (kZ X) (dt l) x;rw[qx,show 1+l.length=l.length+1 by omega]at this;exact this
theorem ku:∀{l:List K} {X x:K},X ∈ l->X*x=1->pv (aX l) l.length x=0
 | [],_,_,h,_=>by simp at h
 | Y::l,X,x,h,e=>by
  rw[ak₀,nV];rcases List.mem_cons.1 h with rfl|h
  ·rw[e,sub_self,zero_mul]
  ·rw[ku h e,mul_zero]
theorem qm{X Y x:K}(e:X*x=1)(h:X≠Y):1-Y*x≠0:=by
 intro h2;apply h;have hx:x≠0:=by rintro rfl;rw[mul_zero]at e;exact ig e.symm
 apply mul_left_cancel hx;rw[mul_comm x X,mul_comm x Y,e];exact sub_eq_zero h2
theorem iq:∀{l:List K} {X x:K},X ∉ l->X*x=1->pv (aX l) l.length x≠0
 | [],_,x,_,_=>by rw[aX,an₀,JW];exact ig
 | Y::l,X,x,h,e=>by
  rw[ak₀,nV];refine mul_ne_zero (qm e (fun e2=>h (by rw[e2];simp))) (iq (fun h2=>h (by simp[h2])) e)
theorem l8:∀(l:List K) (xs:List K) (p:Ser K) (d:Nat),l.length=xs.length->l.Nodup->(∀i (h:i<l.length) (h':i<xs.length),l[i]*xs[i]=1)->dg p (l.length+d)->(∀x ∈ xs,pv p (l.length+d) x=0)->∃q,dg q d/\p=cv (aX l) q
 | [],xs,p,d,_,_,_,hp,_=>⟨p,by simpa using hp,by rw[aX,iT]⟩
 | X::l,[],p,d,hl,_,_,_,_=>by simp at hl
 | X::l,x::xs,p,d,hl,hn,hx,hp,hr=>by
  have e:X*x=1:=hx 0 (by simp) (by simp);have hlen:l.length=xs.length:=by simpa using hl
  have hd:(X::l).length+d=(l.length+d)+1:=by simp;omega
  rw[hd]at hp hr;have h1:=Nt e hp (hr x (by simp));have h2:p=cv (lin X) (dl X p):=(No X p).symm;have hnot:X ∉ l:=(List.nodup_cons.1 hn).1;obtain⟨q,hq,hq2⟩:=l8 l xs (dl X p) d hlen (List.nodup_cons.1 hn).2 (fun i h h'=>hx (i+1) (by simpa using h) (by simpa using h')) h1 (by
   intro y hy;have hp0:=hr y (by simp[hy]);rw[h2]at hp0;have hv:=nU (kZ X) h1 y;rw[show 1+(l.length+d)=l.length+d+1 by omega,hp0,qx]at hv;obtain⟨i,hi,rfl⟩:=List.getElem_of_mem hy;have hi':i<l.length:=byO;have hy1:=hx (i+1) (by simpa using hi') (by simpa using hi);simp only[List.getElem_cons_succ]at hy1;rcases mul_eq_zero hv.symm with h0|h0
   ·exact absurd h0 (qm hy1 (fun e2=>hnot (by rw[<-e2];exact List.getElem_mem _)))
   ·exact h0)
  exact⟨q,hq,by rw[aX,dM,<-hq2,<-h2]⟩
end
end Go.RS
namespace Go.RS
section
variable {K:Type}[Fd K]
structure Gen (s C:Ser K)(L n:Nat):Prop where
 one:C 0=1
 deg:dg C L
 gen:∀k,L<=k->k<n->cv C s k=0
theorem Gen.less{s C:Ser K}{L m n:Nat}(h:Gen s C L n)(hm:m<=n):Gen s C L m:=⟨h.one,h.deg,fun k h1 h2=>h.gen k h1 byO⟩
theorem L0{s C D:Ser K}{L M n:Nat}(hC:Gen s C L n)(hd:cv C s n≠0)(hD:Gen s D M (n+1)):n+1<=L+M:=by
 apply Decidable.byContradiction;intro hc;apply hd;have e1:cv D (cv C s) n=cv C s n:=by
  show sm (n+1) (fun j=>D j*cv C s (n-j))=_;rw[jb (k:=0) byO (fun j h1 h2=>by
   by_cases h:M<j
   ·rw[hD.deg j h,zero_mul]
   ·rw[hC.gen (n-j) byO byO,mul_zero]),hD.one,one_mul,Nat.sub_zero]
 have e2:cv C (cv D s) n=0:=by
  refine eL fun i hi=>?_;by_cases h:L<i
  ·rw[hC.deg i h,zero_mul]
  ·rw[hD.gen (n-i) byO byO,mul_zero]
 rw[<-e1,<-dM,dS D C,dM,e2]
structure Reg (K:Type) where
 C:Ser K
 B:Ser K
 L:Nat
 m:Nat
 b:K
def Reg.init:Reg K:=⟨s1,s1,0,1,1⟩
def Reg.next(s:Ser K)(n:Nat)(r:Reg K):Reg K:=
 if cv r.C s n=0 then { r with m:=r.m+1 }
 else if 2*r.L<=n then⟨fun i=>r.C i-cv r.C s n*inv r.b*sh r.m r.B i,r.C,n+1-r.L,1,cv r.C s n⟩
 else { r with C:=fun i=>r.C i-cv r.C s n*inv r.b*sh r.m r.B i,m:=r.m+1 }
def Reg.run(s:Ser K):Nat->Reg K
 | 0=>Reg.init
 | n+1=>(Reg.run s n).next s n
structure RInv (s:Ser K)(n:Nat)(r:Reg K):Prop where
 gen:Gen s r.C r.L n
 le:r.L<=n
 min:∀D M,Gen s D M n->r.L<=M
 b:r.b≠0
 mp:0<r.m
 old:∃LB,dg r.B LB/\r.L+LB+r.m=n+1/\(∀t,LB<=t->t+r.m<n->cv r.B s t=0)/\(LB+r.m<=n->cv r.B s (n-r.m)=r.b)
theorem BQ(s:Ser K):RInv s 0 (Reg.init:Reg K):=by
 refine⟨⟨rfl,Ci,fun k _ h=>byO⟩,Nat.le_refl _,fun _ _ _=>Nat.zero_le _,ig,Nat.zero_lt_one,0,Ci,rfl,fun t _ h=>byO,fun h=>?_⟩;simp[Reg.init]at h
theorem FY{s C B:Ser K}{a:K}{m k:Nat}:cv (fun i=>C i-a*sh m B i) s k=cv C s k-a*sh m (cv B s) k:=by
 have:(fun i=>C i-a*sh m B i)=(fun i=>C i+(fun j=>- (a*sh m B j)) i):=rfl;rw[this,vQ,C8,sH,JJ];rfl
theorem BR{s:Ser K}{n:Nat}{r:Reg K}(h:RInv s n r):RInv s (n+1) (r.next s n):=by
 obtain⟨LB,o1,o2,o3,o4⟩:=h.old;unfold Reg.next;split
 ·rename_i hd
  refine⟨⟨h.gen.one,h.gen.deg,fun k h1 h2=>?_⟩,by have:=h.le;simp only;omega,fun D M hD=>h.min D M (hD.less byO),h.b,Nat.succ_pos _,LB,o1,by simp only;omega,fun t h1 h2=>o3 t h1 (by simp only at h2;omega),fun h1=>?_⟩
  ·by_cases e:k=n
   ·rw[e];exact hd
   ·exact h.gen.gen k h1 byO
  ·simp only at h1 ⊢
   rw[<-o4 byO,show n+1-(r.m+1)=n-r.m by omega]
 ·rename_i hd
  have hone:(fun i=>r.C i-cv r.C s n*inv r.b*sh r.m r.B i) 0=1:=by
   have hm:=h.mp;show r.C 0-_*sh r.m r.B 0=1;rw[ky _ hm,mul_zero,h.gen.one];exact(show(1-0)=1 from bu [((1:K))] (.add .one (.neg .zero)) .one rfl)
  have hdeg:∀L',r.L<=L'->n+1-r.L<=L'->dg (fun i=>r.C i-cv r.C s n*inv r.b*sh r.m r.B i) L':=by
   intro L' h1 h2 i hi;show r.C i-_*sh r.m r.B i=0;rw[h.gen.deg i byO,ja _ byO,o1 (i-r.m) byO,mul_zero];exact(show(0-0)=0 from bu [((1:K))] (.add .zero (.neg .zero)) .zero rfl)
  have hgen:∀L',r.L<=L'->n+1-r.L<=L'->∀k,L'<=k->k<n+1->cv (fun i=>r.C i-cv r.C s n*inv r.b*sh r.m r.B i) s k=0:=by
   intro L' h1 h2 k h3 h4;rw[FY,ja _ byO];by_cases e:k=n
   ·subst e
    rw[o4 byO,mul_assoc,inv_mul h.b,mul_one,sub_self]
   ·rw[h.gen.gen k byO byO,o3 (k-r.m) byO byO,mul_zero]
    exact(show(0-0)=0 from bu [((1:K))] (.add .zero (.neg .zero)) .zero rfl)
  have hmin:∀D M,Gen s D M (n+1)->r.L<=M/\n+1-r.L<=M:=fun D M hD=>⟨h.min D M (hD.less byO),by have:=L0 h.gen hd hD;omega⟩;by_cases hl:2*r.L<=n
  ·rw[if_pos hl]
   refine⟨⟨hone,hdeg _ (by simp only;omega) (Nat.le_refl _),hgen _ (by simp only;omega) (Nat.le_refl _)⟩,by simp only;omega,fun D M hD=>(hmin D M hD).2,hd,Nat.zero_lt_one,r.L,h.gen.deg,by simp only;omega,fun t h1 h2=>h.gen.gen t h1 (by simp only at h2;omega),fun _=>?_⟩;simp only;rw[show n+1-1=n by omega]
  ·rw[if_neg hl]
   have hl2:n+1-r.L<=r.L:=byO;refine⟨⟨hone,hdeg _ (Nat.le_refl _) hl2,hgen _ (Nat.le_refl _) hl2⟩,by have:=h.le;simp only;omega,fun D M hD=>(hmin D M hD).1,h.b,Nat.succ_pos _,LB,o1,by simp only;omega,fun t h1 h2=>o3 t h1 (by simp only at h2;omega),fun h1=>?_⟩;simp only at h1 ⊢;rw[<-o4 byO,show n+1-(r.m+1)=n-r.m by omega]
theorem gW(s:Ser K):∀n,RInv s n (Reg.run s n)
 | 0=>BQ s
 | n+1=>BR (gW s n)
theorem tE{s t:Ser K}:∀{n:Nat},(∀k,k<n->s k=t k)->Reg.run s n=Reg.run t n
 | 0,_=>rfl
 | n+1,h=>by
  have e:=tE (fun k hk=>h k byO:∀k,k<n->s k=t k);have e2:∀C:Ser K,cv C s n=cv C t n:=fun C=>kY (fun _ _=>rfl) (fun i hi=>h i byO);simp only[Reg.run,e,Reg.next,e2]
def geo(X:K):Ser K:=fun n=>pw X n
theorem K3(X:K):cv (lin X) (geo X)=s1:=by
 funext n;cases n with
 | zero=>rw[nD];rfl
 | succ n=>
  rw[mT];show pw X n*X-X*pw X n=0;rw[mul_comm X,sub_self]
def gs:List (K×K)->Ser K
 | []=>fun _=>0
 | (y,X)::l=>fun n=>y*geo X n+gs l n
def xs:List (K×K)->List K:=List.map Prod.snd
def om:List (K×K)->Ser K
 | []=>fun _=>0
 | (y,X)::l=>fun n=>y*aX (xs l) n+cv (lin X) (om l) n
theorem tb(p:Ser K):cv p (fun _=>0)=fun _=>0:=by
 funext n;exact eL fun i _=>mul_zero _
theorem sI(a:K)(p q:Ser K)(n:Nat):cv p (fun i=>a*q i) n=a*cv p q n:=by
 rw[dS,sH,dS]
theorem yh:∀l:List (K×K),cv (aX (xs l)) (gs l)=om l
 | []=>tb _
 | (y,X)::l=>by
  funext n;show cv (cv (lin X) (aX (xs l))) (fun n=>y*geo X n+gs l n) n=_;rw[qA,sI,dS (lin X),dM,K3,dS _ s1,iT,dS (aX (xs l)),dM,yh l];rfl
theorem fQ(l:List (K×K)):(xs l).length=l.length:=by simp[xs]
theorem o9:∀l:List (K×K),∀i,l.length<=i->om l i=0
 | [],_,_=>rfl
 | (y,X)::l,i,h=>by
  have h:l.length+1<=i:=by simpa using h
  have h2:=dt (xs l);rw[fQ]at h2;show y*aX (xs l) i+cv (lin X) (om l) i=0;rw[h2 i byO,mul_zero,zero_add];cases i with
  | zero=>omega
  | succ i=>rw[mT,o9 l (i+1) byO,o9 l i byO,mul_zero];exact(show(0-0)=0 from bu [((1:K))] (.add .zero (.neg .zero)) .zero rfl)
theorem yF(p q:Ser K)(d:Nat)(x:K):pv (fun i=>p i+q i) d x=pv p d x+pv q d x:=by
 unfold pv;rw[<-oP];exact bD fun i _=>add_mul _ _ _
theorem u7(a:K)(p:Ser K)(d:Nat)(x:K):pv (fun i=>a*p i) d x=a*pv p d x:=by
 unfold pv;rw[kD];exact bD fun i _=>mul_assoc _ _ _
theorem JV:∀(l:List (K×K)) (j:Nat) (h:j<l.length) (x:K),(l[j]).2*x=1->pv (om l) l.length x=(l[j]).1*pv (aX ((xs l).eraseIdx j)) (l.length-1) x
 | [],j,h,_,_=>by simp at h
 | (y,X)::l,0,h,x,e=>by
  have e:X*x=1:=e;show pv (fun n=>y*aX (xs l) n+cv (lin X) (om l) n) (l.length+1) x=y*pv (aX (xs l)) (l.length+1-1) x;have h1:dg (om l) l.length:=fun i hi=>o9 l i byO;have h2:=nU (kZ X) h1 x;have h3:=dt (xs l);rw[fQ]at h3;rw[show 1+l.length=l.length+1 by omega,qx,e,sub_self,zero_mul]at h2;rw[yF,u7,h2,add_zero,Nat.add_sub_cancel,yG h3 byO]
 | (y,X)::l,j+1,h,x,e=>by
  have hj:j<l.length:=by simpa using h
  have e:(l[j]).2*x=1:=e;show pv (fun n=>y*aX (xs l) n+cv (lin X) (om l) n) (l.length+1) x=(l[j]).1*pv (cv (lin X) (aX ((xs l).eraseIdx j))) (l.length+1-1) x;have h1:dg (om l) l.length:=fun i hi=>o9 l i byO;have h2:=nU (kZ X) h1 x;have h3:=dt (xs l);have h4:=dt ((xs l).eraseIdx j);have h5:((xs l).eraseIdx j).length=l.length-1:=by rw[List.length_eraseIdx_of_lt (by rw[fQ];exact hj),fQ]
  rw[h5]at h4;rw[fQ]at h3;have h6:=nU (kZ X) h4 x;have hz:pv (aX (xs l)) l.length x=0:=by
   have:=ku (l:=xs l) (X:=(l[j]).2) (x:=x) (List.mem_map.2 ⟨l[j],List.getElem_mem _,rfl⟩) e;rwa [fQ]at this
  rw[show 1+(l.length-1)=l.length by omega]at h6;rw[yF,u7,yG h3 byO,hz,mul_zero,zero_add,show l.length+1=1+l.length by omega,h2,JV l j hj x e,show 1+l.length-1=l.length by omega,h6];exact(show((pv (lin X) 1 x)*(((l[j]).1)*(pv (aX ((xs l).eraseIdx j)) (l.length-1) x)))=(((l[j]).1)*((pv (lin X) 1 x)*(pv (aX ((xs l).eraseIdx j)) (l.length-1) x))) from bu [(pv (lin X) 1 x),((l[j]).1),(pv (aX ((xs l).eraseIdx j)) (l.length-1) x)] (.mul (.v 0) (.mul (.v 1) (.v 2))) (.mul (.v 1) (.mul (.v 0) (.v 2))) rfl)
theorem qf:∀l:List K,(∀X ∈ l,X≠0)->aX l l.length≠0
 | [],_=>ig
 | X::l,h=>by
  show cv (lin X) (aX l) (l.length+1)≠0;rw[mT,dt l _ byO];have h1:=qf l (fun Y hY=>h Y (by simp[hY]));have h2:=mul_ne_zero (h X (by simp)) h1;intro h3;apply neg_ne_zero h2;rw[<-h3];exact(show(-(X*aX l l.length))=(0-(X*aX l l.length)) from bu [(X*aX l l.length)] (.neg (.v 0)) (.add .zero (.neg (.v 0))) rfl)
theorem uH{l:List K}(hn:l.Nodup){j:Nat}(hj:j<l.length):l[j] ∉ l.eraseIdx j:=by
 intro hm;obtain⟨i,hi,he⟩:=List.getElem_of_mem hm;rw[List.getElem_eraseIdx]at he;have hl:=List.length_eraseIdx_of_lt hj;split at he
 ·have:=(List.getElem_inj hn).1 he;omega
 ·have:=(List.getElem_inj hn).1 he;omega
theorem AS{s C:Ser K}{L N:Nat}(hg:Gen s C L N)(hmin:∀D M,Gen s D M N->L<=M)(l:List (K×K))(hy:∀p ∈ l,p.1≠0)(hX:∀p ∈ l,p.2≠0)(hn:(xs l).Nodup)(hs:∀k,k<N->s k=gs l k)(ht:2*l.length<=N):C=aX (xs l)/\L=l.length:=by
 have hcv:∀(D:Ser K) k,k<N->cv D s k=cv D (gs l) k:=fun D k hk=>kY (fun _ _=>rfl) (fun i hi=>hs i byO);have hdl:=dt (xs l);rw[fQ]at hdl;have hL:L<=l.length:=hmin (aX (xs l)) l.length ⟨j3 _,hdl,fun k h1 h2=>by rw[hcv _ k h2,yh,o9 l k h1]⟩;have hA:∀k,L<=k->k<N->cv C (gs l) k=0:=fun k h1 h2=>by rw[<-hcv _ k h2];exact hg.gen k h1 h2
 have hP:cv C (om l)=cv (aX (xs l)) (fun k=>if k<L then cv C (gs l) k else 0):=by
  funext n;by_cases hnN:n<N
  ·rw[<-yh,<-dM,dS C,dM]
   refine kY (fun _ _=>rfl) (fun i hi=>?_);split
   ·rfl
   ·exact hA i byO byO
  ·rw[show cv C (om l) n=0 from eL fun i hi=>by
    by_cases h:L<i
    ·rw[hg.deg i h,zero_mul]
    ·rw[o9 l (n-i) byO,mul_zero]]
   refine(eL fun i hi=>?_).symm;by_cases h:l.length<i
   ·rw[hdl i h,zero_mul]
   ·by_cases h2:n-i<L
    ·have:n-i+i=n:=byO
     exact absurd hnN byO
    ·show aX (xs l) i*(if n-i<L then cv C (gs l) (n-i) else 0)=0
     rw[if_neg h2,mul_zero]
 have hroot:∀j (h:j<l.length),pv C L (inv (l[j]).2)=0:=by
  intro j h;have hXj:=hX l[j] (List.getElem_mem _);have e:(l[j]).2*inv (l[j]).2=1:=gN hXj;have h1:dg (om l) l.length:=fun i hi=>o9 l i byO;have h2:=nU hg.deg h1 (inv (l[j]).2);have h3:dg (fun k=>if k<L then cv C (gs l) k else 0) L:=fun i hi=>if_neg byO;have h4:=nU hdl h3 (inv (l[j]).2);have hz:pv (aX (xs l)) l.length (inv (l[j]).2)=0:=by
   have:=ku (l:=xs l) (X:=(l[j]).2) (List.mem_map.2 ⟨l[j],List.getElem_mem _,rfl⟩) e;rwa [fQ]at this
  rw[hz,zero_mul,<-hP,show l.length+L=L+l.length by omega,h2]at h4;rcases mul_eq_zero h4 with h5|h5
  ·exact h5
  ·rw[JV l j h _ e]at h5
   rcases mul_eq_zero h5 with h6|h6
   ·exact absurd h6 (hy _ (List.getElem_mem _))
   ·exfalso
    have hj':j<(xs l).length:=by rw[fQ];exact h
    have hnm:=uH hn hj';have h7:=iq (X:=(l[j]).2) (l:=(xs l).eraseIdx j) (by simpa[xs]using hnm) e;rw[List.length_eraseIdx_of_lt hj',fQ]at h7;exact h7 h6
 have hdeg:dg C ((xs l).length+0):=F5 hg.deg (by rw[fQ];omega);obtain⟨q,hq,hCq⟩:=l8 (xs l) ((xs l).map inv) C 0 (by simp) hn (fun i h h'=>by
   rw[List.getElem_map];exact gN (by
    obtain⟨p,hp,he⟩:=List.mem_map.1 (List.getElem_mem h);rw[<-he];exact hX p hp)) hdeg (fun x hx=>by
   obtain⟨X,hXm,rfl⟩:=List.mem_map.1 hx;obtain⟨p,hp,rfl⟩:=List.mem_map.1 hXm;obtain⟨j,hj,rfl⟩:=List.getElem_of_mem hp;rw[yG hg.deg (by rw[fQ];omega)];exact hroot j hj)
 have hq0:q 0=1:=by
  have:=hg.one;rwa [hCq,pK,j3,one_mul]at this
 have hqs:q=s1:=by
  funext i;unfold s1;split
  ·rename_i h;rw[h];exact hq0
  ·exact hq i byO
 have hC:C=aX (xs l):=by rw[hCq,hqs,dS,iT]
 refine⟨hC,?_⟩;have htop:=qf (xs l) (fun X hXm=>by
  obtain⟨p,hp,rfl⟩:=List.mem_map.1 hXm;exact hX p hp)
 rw[fQ,<-hC]at htop;by_cases h:L<l.length
 ·exact absurd (hg.deg _ h) htop
 ·omega
end
end Go.RS
namespace Go.RS
theorem lX:∀(q:Nat) (l:List Nat),l.Nodup->(∀x ∈ l,x<q)->l.length<=q
 | 0,l,_,h=>by
  cases l with
  | nil=>simp
  | cons a l=>exact absurd (h a (by simp)) byO
 | q+1,l,hn,h=>by
  by_cases hm:q ∈ l
  ·have h1:=List.length_erase_of_mem hm
   have h2:=lX q (l.erase q) (hn.erase q) (fun x hx=>by
    have h3:=h x (List.mem_of_mem_erase hx);have h4:x≠q:=(hn.mem_erase_iff.1 hx).1;omega)
   have h3:=List.length_pos_of_mem hm;omega
  ·have:=lX q l hn (fun x hx=>by
    have h3:=h x hx;have h4:x≠q:=fun e=>hm (e▸hx);omega)
   omega
theorem gk{α:Type}{f:Nat->α}{n:Nat}(h:∀i j,i<n->j<n->f i=f j->i=j):((List.range n).map f).Nodup:=by
 rw[List.nodup_iff_pairwise_ne]at *;rw[List.pairwise_map];refine List.Pairwise.imp_of_mem ?_ (List.nodup_iff_pairwise_ne.1 List.nodup_range);intro a b ha hb hne e;exact hne (h a b (by simpa using ha) (by simpa using hb) e)
theorem pB{q:Nat}{f:Nat->Nat}(h1:∀i,i<q->f i<q)(h2:∀i j,i<q->j<q->f i=f j->i=j){y:Nat}(hy:y<q):∃x,x<q/\f x=y:=by
 apply Decidable.byContradiction;intro hc;have hnot:y ∉ (List.range q).map f:=by
  intro hm;obtain⟨x,hx,e⟩:=List.mem_map.1 hm;exact hc ⟨x,by simpa using hx,e⟩
 have:=lX q (y::(List.range q).map f) (List.nodup_cons.2 ⟨hnot,gk h2⟩) (by
  intro x hx;rcases List.mem_cons.1 hx with rfl|hx
  ·exact hy
  ·obtain⟨i,hi,rfl⟩:=List.mem_map.1 hx
   exact h1 i (by simpa using hi))
 simp at this;omega
theorem least{P:Nat->Prop}:∀n,P n->∃m,m<=n/\P m/\∀k,k<m->¬ P k:=by
 intro n
 induction n using Nat.strongRecOn with
 | _ n ih=>
  intro h;by_cases hc:∃k,k<n/\P k
  ·obtain⟨k,h1,h2⟩:=hc
   obtain⟨m,a,b,c⟩:=ih k h1 h2;exact⟨m,byO,b,c⟩
  ·exact⟨n,Nat.le_refl _,h,fun k hk hp=>hc ⟨k,hk,hp⟩⟩
theorem DI{P:Nat->Prop}(b:Nat)(hb:∀n,P n->n<=b){n:Nat}(h:P n):∃m,P m/\∀k,P k->k<=m:=by
 obtain⟨m,h1,h2,h3⟩:=least (P:=fun k=>k<=b/\P (b-k)) (b-n) ⟨byO,by rw[show b-(b-n)=n by have:=hb n h;omega];exact h⟩;refine⟨b-m,h2.2,fun k hk=>?_⟩;have hkb:=hb k hk;apply Decidable.byContradiction;intro hc;exact h3 (b-k) byO ⟨byO,by rw[show b-(b-k)=k by omega];exact hk⟩
def Pr(p:Nat):Prop:=2<=p/\∀d,2<=d->d<p->¬ d ∣ p
theorem BM{n:Nat}(h:2<=n):∃p,Pr p/\p ∣ n:=by
 obtain⟨p,h1,⟨h2,h3⟩,h4⟩:=least (P:=fun k=>2<=k/\k ∣ n) n ⟨h,Nat.dvd_refl n⟩;exact⟨p,⟨h2,fun d hd hlt hdvd=>h4 d hlt ⟨hd,Nat.dvd_trans hdvd h3⟩⟩,h3⟩
theorem sx{p:Nat}(hp:2<=p):∀n,0<n->∃f m,n=p^f*m/\¬ p ∣ m:=by
 intro n
 induction n using Nat.strongRecOn with
 | _ n ih=>
  intro h;by_cases hd:p ∣ n
  ·obtain⟨k,rfl⟩:=hd
   have hk:0<k:=by
    rcases Nat.eq_zero_or_pos k with rfl|h'
    ·simp at h
    ·exact h'
   obtain⟨f,m,h1,h2⟩:=ih k (by
    have:1*k<p*k:=Nat.mul_lt_mul_of_pos_right byO hk;omega) hk
   exact⟨f+1,m,by rw[h1,Nat.pow_succ,ba₀ (p^f) p,Nat.mul_assoc],h2⟩
  ·exact⟨0,n,by simp,hd⟩
theorem qv{p m:Nat}(hp:Pr p)(h:¬ p ∣ m):Nat.gcd p m=1:=by
 have hd:=Nat.gcd_dvd_left p m;have hpos:0<Nat.gcd p m:=Nat.gcd_pos_of_pos_left m (by have:=hp.1;omega);have hle:=Nat.le_of_dvd (by have:=hp.1;omega) hd;apply Decidable.byContradiction;intro hc;by_cases he:Nat.gcd p m=p
 ·apply h
  rw[<-he];exact Nat.gcd_dvd_right p m
 ·exact hp.2 _ byO byO hd
theorem o7{p m:Nat}(h:Nat.gcd p m=1):∀e,Nat.gcd (p^e) m=1
 | 0=>by simp
 | e+1=>by
  rw[Nat.pow_succ];exact Nat.Coprime.mul_left (o7 h e) h
theorem w8{k m:Nat}(hk:0<k)(hm:0<m)(h:¬ k ∣ m):∃p f m',Pr p/\m=p^f*m'/\¬ p ∣ m'/\p^(f+1) ∣ k:=by
 have hg:=Nat.gcd_dvd_left k m;have hgpos:0<Nat.gcd k m:=Nat.gcd_pos_of_pos_left m hk;obtain⟨d,hd⟩:=hg;have hd2:2<=d:=by
  rcases Nat.lt_or_ge d 2 with h2|h2
  ·exfalso
   have:d=0\/d=1:=byO;rcases this with rfl|rfl
   ·simp at hd;omega
   ·apply h
    rw[Nat.mul_one]at hd;rw[hd];exact Nat.gcd_dvd_right k m
  ·exact h2
 obtain⟨p,hp,hpd⟩:=BM hd2;obtain⟨f,m',h1,h2⟩:=sx hp.1 m hm;obtain⟨j,k',h3,h4⟩:=sx hp.1 k hk;refine⟨p,f,m',hp,h1,h2,?_⟩;by_cases hj:f+1<=j
 ·rw[h3]
  exact Nat.dvd_trans (Nat.pow_dvd_pow p hj) (Nat.dvd_mul_right _ _)
 ·exfalso
  have hpj:p^j ∣ Nat.gcd k m:=Nat.dvd_gcd (by rw[h3];exact Nat.dvd_mul_right _ _) (by rw[h1];exact Nat.dvd_trans (Nat.pow_dvd_pow p byO) (Nat.dvd_mul_right _ _));have:p^j*p ∣ k:=by rw[hd];exact Nat.mul_dvd_mul hpj hpd
  rw[h3]at this;exact h4 (Nat.dvd_of_mul_dvd_mul_left (Nat.pow_pos (by have:=hp.1;omega)) this)
section
variable {K:Type}[Fd K]
def Ord(a:K)(n:Nat):Prop:=0<n/\pw a n=1/\∀m,0<m->m<n->pw a m≠1
theorem ua{a:K}{n:Nat}(h:pw a n=1)(k:Nat):pw a (k%n)=pw a k:=by
 have e:k=n*(k/n)+k%n:=(Nat.div_add_mod k n).symm;have:pw a k=pw a (n*(k/n))*pw a (k%n):=by rw[<-ff,<-e]
 rw[this,dZ,h,gn,one_mul]
theorem iE{a:K}{n k:Nat}(h:Ord a n)(hk:pw a k=1):n ∣ k:=by
 obtain⟨h1,h2,h3⟩:=h;rw[Nat.dvd_iff_mod_eq_zero];apply Decidable.byContradiction;intro hc;exact h3 (k%n) byO (Nat.mod_lt k h1) (by rw[ua h2,hk])
theorem Gh{a:K}{n k:Nat}(h:Ord a n):pw a k=1↔n ∣ k:=by
 refine⟨iE h,?_⟩;rintro⟨j,rfl⟩;rw[dZ,h.2.1,gn]
theorem Dq{a:K}{d n:Nat}(h:Ord a (d*n)):Ord (pw a d) n:=by
 obtain⟨h1,h2,h3⟩:=h;have hd:0<d:=by
  rcases Nat.eq_zero_or_pos d with rfl|h'
  ·simp at h1
  ·exact h'
 have hn:0<n:=by
  rcases Nat.eq_zero_or_pos n with rfl|h'
  ·simp at h1
  ·exact h'
 refine⟨hn,by rw[<-dZ];exact h2,fun m hm hlt e=>?_⟩;rw[<-dZ]at e;exact h3 (d*m) (Nat.mul_pos hd hm) (Nat.mul_lt_mul_of_pos_left hlt hd) e
theorem Gi{a b:K}{m n:Nat}(ha:Ord a m)(hb:Ord b n)(hc:Nat.gcd m n=1):Ord (a*b) (m*n):=by
 refine⟨Nat.mul_pos ha.1 hb.1,?_,fun k hk hlt e=>?_⟩
 ·rw[oE,dZ a m n,ha.2.1,gn,one_mul,ba₀,dZ,hb.2.1,gn]
 ·rw[oE]at e
  have e1:pw b (k*m)=1:=by
   have:pw (pw a k*pw b k) m=1:=by rw[e,gn]
   rw[oE,<-dZ,ba₀ k m,dZ a m k,ha.2.1,gn,one_mul,<-dZ,ba₀ k m]at this;rw[ba₀];exact this
  have e2:pw a (k*n)=1:=by
   have:pw (pw a k*pw b k) n=1:=by rw[e,gn]
   rw[oE,<-dZ,<-dZ,ba₀ k n,dZ b n k,hb.2.1,gn,mul_one,ba₀ n k]at this;exact this
  have d1:n ∣ k:=Nat.Coprime.dvd_of_dvd_mul_right (show Nat.Coprime n m by rw[Nat.Coprime,Nat.gcd_comm];exact hc) (iE hb e1);have d2:m ∣ k:=Nat.Coprime.dvd_of_dvd_mul_right (show Nat.Coprime m n from hc) (iE ha e2);have:=Nat.le_of_dvd hk (Nat.Coprime.mul_dvd_of_dvd_of_dvd hc d2 d1);omega
structure Num (K:Type)[Fd K] where
 q:Nat
 val:K->Nat
 lt:∀x,val x<q
 inj:∀x y,val x=val y->x=y
 sur:∀i,i<q->∃x,val x=i
 v0:val 0=0
variable (N:Num K)
theorem Num.elems:∃l:List K,l.Nodup/\l.length=N.q-1/\(∀x,x ∈ l↔x≠0):=by
 have hf:∃f:Nat->K,∀i,i<N.q->N.val (f i)=i:=
  ⟨fun i=>if h:i<N.q then(N.sur i h).choose else 0,fun i h=>by simp only[h,dif_pos];exact(N.sur i h).choose_spec⟩
 obtain⟨f,hf⟩:=hf;refine⟨(List.range (N.q-1)).map (fun i=>f (i+1)),gk ?_,by simp,fun x=>?_⟩
 ·intro i j hi hj e
  have h1:=hf (i+1) byO;have h2:=hf (j+1) byO;rw[e,h2]at h1;omega
 ·constructor
  ·intro hm e
   obtain⟨i,hi,e2⟩:=List.mem_map.1 hm;have hi0:i<N.q-1:=by simpa using hi
   have h1:=hf (i+1) byO;have e2:f (i+1)=x:=e2;rw[e2,e,N.v0]at h1;omega
  ·intro h
   have hv:N.val x≠0:=fun e=>h (N.inj x 0 (by rw[e,N.v0]));have hl:=N.lt x;refine List.mem_map.2 ⟨N.val x-1,by simp;omega,?_⟩;show f (N.val x-1+1)=x;apply N.inj;rw[hf _ byO];omega
theorem Num.ord(a:K)(ha:a≠0):∃n,Ord a n/\n<=N.q-1:=by
 have hex:∃n,0<n/\pw a n=1/\n<=N.q-1:=by
  apply Classical.byContradiction;intro hc;obtain⟨l,_,hl,hmem⟩:=N.elems;have hinj:∀i j,i<N.q->j<N.q->N.val (pw a i)=N.val (pw a j)->i=j:=by
   have key:∀i k,i+k<N.q->pw a i=pw a (i+k)->k=0:=by
    intro i k hk e;rw[ff]at e;have e2:pw a k=1:=by
     symm
     apply mul_left_cancel (cL ha i);rw[mul_one];exact e
    apply Decidable.byContradiction;intro hk0;exact hc ⟨k,byO,e2,byO⟩
   intro i j hi hj e;have e:=N.inj _ _ e;rcases Nat.le_total i j with h|h
   ·have:=key i (j-i) byO (by rw[show i+(j-i)=j by omega];exact e);omega
   ·have:=key j (i-j) byO (by rw[show j+(i-j)=i by omega];exact e.symm);omega
  have hlen:=lX N.q (0::(List.range N.q).map (fun i=>N.val (pw a i))) (List.nodup_cons.2 ⟨by
   intro hm;obtain⟨i,_,e⟩:=List.mem_map.1 hm;exact cL ha i (N.inj _ _ (by rw[N.v0];exact e)),gk hinj⟩) (by
   intro x hx;rcases List.mem_cons.1 hx with rfl|hx
   ·exact Nat.lt_of_le_of_lt (Nat.zero_le _) (N.lt 0)
   ·obtain⟨i,_,rfl⟩:=List.mem_map.1 hx
    exact N.lt _)
  simp at hlen;omega
 obtain⟨n,h1,h2,h3⟩:=hex;obtain⟨m,hm1,⟨hm2,hm3⟩,hm4⟩:=least (P:=fun k=>0<k/\pw a k=1) n ⟨h1,h2⟩;exact⟨m,⟨hm2,hm3,fun k hk hlt e=>hm4 k hlt ⟨hk,e⟩⟩,byO⟩
theorem rE{m:Nat}(hm:0<m)(l:List K)(hn:l.Nodup)(h0:∀x ∈ l,x≠0)(h1:∀x ∈ l,pw x m=1):l.length<=m:=by
 apply Decidable.byContradiction;intro hc;have hp:dg (fun n=>if n=0 then(1:K) else if n=m then -1 else 0) m:=by
  intro i hi;show(if i=0 then(1:K) else if i=m then -1 else 0)=0;rw[if_neg byO,if_neg byO]
 have hv:∀x,pw x m=1->pv (fun n=>if n=0 then(1:K) else if n=m then -1 else 0) m x=0:=by
  intro x hx;unfold pv;rw[cG];have e:sm m (fun i=>(if i=0 then(1:K) else if i=m then -1 else 0)*pw x i)=1:=by
   rw[jb (k:=0) hm (fun i hi h=>by rw[if_neg h,if_neg byO,zero_mul]),if_pos rfl,fF,mul_one]
  rw[e];show 1+(if m=0 then(1:K) else if m=m then -1 else 0)*pw x m=0;rw[if_neg byO,if_pos rfl,hx,mul_one,add_neg]
 have hlen:(l.take m).length=m:=by simp;omega
 have hsub:∀x ∈ l.take m,x ∈ l:=fun x hx=>List.mem_of_mem_take hx;have hinvn:((l.take m).map inv).Nodup:=by
  rw[List.nodup_iff_pairwise_ne,List.pairwise_map];refine List.Pairwise.imp_of_mem ?_ (List.nodup_iff_pairwise_ne.1 (hn.sublist (List.take_sublist m l)));intro a b ha hb hne e;apply hne;rw[<-inv_inv (h0 a (hsub a ha)),e,inv_inv (h0 b (hsub b hb))]
 obtain⟨q,hq,hpq⟩:=l8 ((l.take m).map inv) (l.take m) _ 0 (by simp) hinvn (fun i h h'=>by
  rw[List.getElem_map];exact inv_mul (h0 _ (hsub _ (List.getElem_mem h')))) (by rw[ay₀,hlen];exact hp) (fun x hx=>by rw[ay₀,hlen];exact hv x (h1 x (hsub x hx)))
 have hq0:q 0=1:=by
  have e:=congrFun hpq 0;rw[pK,j3,one_mul]at e;exact e.symm
 have hqs:q=s1:=by
  funext i;unfold s1;split
  ·rename_i h;rw[h];exact hq0
  ·exact hq i byO
 rw[hqs,dS,iT]at hpq;have hml:m<l.length:=byO;have hlast:=hv l[m] (h1 _ (List.getElem_mem hml));rw[hpq]at hlast;have hnot:inv l[m] ∉ (l.take m).map inv:=by
  intro hm2;obtain⟨x,hx,e⟩:=List.mem_map.1 hm2;have e2:x=l[m]:=by rw[<-inv_inv (h0 x (hsub x hx)),e,inv_inv (h0 _ (List.getElem_mem hml))]
  obtain⟨i,hi,e3⟩:=List.getElem_of_mem hx;rw[List.getElem_take,e2]at e3;have:=(List.getElem_inj hn).1 e3;simp at hi;omega
 have hne:=iq hnot (inv_mul (h0 _ (List.getElem_mem hml)));rw[ay₀,hlen]at hne;exact hne hlast
theorem Num.cyclic:∃g:K,g≠0/\Ord g (N.q-1):=by
 obtain⟨l,hn,hl,hmem⟩:=N.elems;obtain⟨m,⟨a,ha,hm⟩,hmax⟩:=DI (P:=fun n=>∃a:K,a≠0/\Ord a n) (N.q-1) (fun n ⟨a,ha,h⟩=>by
  obtain⟨k,hk,hle⟩:=N.ord a ha;have:=Nat.le_of_dvd hk.1 (iE h hk.2.1);omega) (n:=1) ⟨1,ig,byO,by rw[oJ],fun m h1 h2=>byO⟩
 have hall:∀x:K,x≠0->pw x m=1:=by
  intro x hx;obtain⟨k,hk,_⟩:=N.ord x hx;apply Decidable.byContradiction;intro hc;have hnd:¬ k ∣ m:=fun hd=>hc ((Gh hk).2 hd);obtain⟨p,f,m',hp,h1,h2,j,h3⟩:=w8 hk.1 hm.1 hnd;have o1:Ord (pw a (p^f)) m':=Dq (by rw[<-h1];exact hm);have o2:Ord (pw x j) (p^(f+1)):=Dq (by rw[ba₀,<-h3];exact hk);have hcop:Nat.gcd m' (p^(f+1))=1:=by rw[Nat.gcd_comm];exact o7 (qv hp h2) _
  have o3:=Gi o1 o2 hcop;have hle:=hmax _ ⟨_,mul_ne_zero (cL ha _) (cL hx _),o3⟩;rw[h1,Nat.pow_succ,ba₀ (p^f) m',<-Nat.mul_assoc]at hle;have hpos:0<m'*p^f:=by rw[ba₀,<-h1];exact hm.1
  have h2p:=hp.1;have:m'*p^f*2<=m'*p^f*p:=Nat.mul_le_mul_left _ h2p;omega
 have hle:=rE hm.1 l hn (fun x hx=>(hmem x).1 hx) (fun x hx=>hall x ((hmem x).1 hx));obtain⟨k,hk,hk2⟩:=N.ord a ha;have:=Nat.le_of_dvd hk.1 (iE hm hk.2.1);have e:m=N.q-1:=byO;rw[e]at hm;exact⟨a,ha,hm⟩
end
end Go.RS
namespace Go.RS
instance boolFd:Fd Bool where
 add:=xor
 mul:=and
 neg:=id
 zero:=false
 one:=true
 inv:=id
 add_assoc':=by decide
 add_comm':=by decide
 add_zero':=by decide
 add_neg':=by decide
 mul_assoc':=by decide
 mul_comm':=by decide
 mul_one':=by decide
 mul_add':=by decide
 mul_inv':=by decide
 one_ne':=by decide
 dec:=inferInstance
def bt(a:Nat):Ser Bool:=fun i=>a.testBit i
theorem p8{a b:Nat}(h:bt a=bt b):a=b:=Nat.eq_of_testBit_eq fun i=>congrFun h i
theorem By(a b:Nat):bt (a ^^^ b)=fun i=>bt a i+bt b i:=by
 funext i;exact Nat.testBit_xor a b i
theorem mG{a d:Nat}(h:a<2^(d+1)):dg (bt a) d:=fun i hi=>Nat.testBit_lt_two_pow (bc₀ h (Nat.pow_le_pow_right byO byO))
theorem D8{a d:Nat}(h:dg (bt a) d):a<2^(d+1):=Nat.lt_pow_two_of_testBit a fun i hi=>h i byO
def ofB:Nat->(Nat->Bool)->Nat
 | 0,_=>0
 | n+1,f=>ofB n f ||| (if f n=true then 2^n else 0)
theorem zW(f:Nat->Bool)(i:Nat):∀n,(ofB n f).testBit i=(decide (i<n)&&f i)
 | 0=>by simp[ofB]
 | n+1=>by
  rw[ofB,Nat.testBit_or,zW f i n];by_cases h:i=n
  ·subst h
   cases hf:f i<;>simp
  ·have h1:decide (i<n+1)=decide (i<n):=by rw[Bool.eq_iff_iff];simp;omega
   rw[h1];split
   ·rw[Nat.testBit_two_pow]
    have:decide (n=i)=false:=by simp;omega
    rw[this,Bool.or_false]
   ·simp
def cl(a b:Nat):Nat:=ofB (a+b+1) (cv (bt a) (bt b))
theorem D9(a:Nat):a<2^(a+1):=bc₀ Nat.lt_two_pow_self (Nat.pow_le_pow_right byO byO)
theorem jV(a b:Nat):bt (cl a b)=cv (bt a) (bt b):=by
 funext i;show(ofB (a+b+1) (cv (bt a) (bt b))).testBit i=_;rw[zW];by_cases h:i<a+b+1
 ·simp[h]
 ·rw[Cg (mG (D9 a)) (mG (D9 b)) i byO]
  simp[h];rfl
theorem fD(a b:Nat):cl a b=cl b a:=p8 (by rw[jV,jV,dS])
theorem jX(a b c:Nat):cl (cl a b) c=cl a (cl b c):=p8 (by rw[jV,jV,jV,jV,dM])
theorem jO(a b c:Nat):cl a (b ^^^ c)=cl a b ^^^ cl a c:=p8 (by
 rw[jV,By,By,jV,jV];funext n;exact qA _ _ _ _)
theorem FB(a b c:Nat):cl (a ^^^ b) c=cl a c ^^^ cl b c:=by rw[fD,jO,fD c a,fD c b]
theorem KT(k:Nat):bt (2^k)=sh k s1:=by
 funext i;show(2^k).testBit i=_;rw[Nat.testBit_two_pow];unfold sh s1;by_cases h:k=i
 ·subst h;simp;rfl
 ·by_cases h2:k<=i
  ·rw[if_pos h2,if_neg byO];simp[h];rfl
  ·rw[if_neg h2];simp[h];rfl
theorem fu(a k:Nat):cl a (2^k)=a <<< k:=p8 (by
 rw[fD,jV,KT,JJ,iT];funext i;show sh k (bt a) i=(a <<< k).testBit i;rw[Nat.testBit_shiftLeft];by_cases h:k<=i
 ·rw[ja _ h];simp[h,bt]
 ·rw[ky _ byO];simp[h];rfl)
theorem ta(a:Nat):cl a 1=a:=by have:=fu a 0;simpa using this
theorem QV:bt 0=fun _=>0:=by funext i;exact Nat.zero_testBit i
theorem fX(a:Nat):cl a 0=0:=p8 (by rw[jV,QV,cv_null'])
where cv_null' {p:Ser Bool}:cv p (fun _=>0)=fun _=>0:=by funext n;exact eL fun i _=>mul_zero _
theorem fe{n:Nat}(h:n≠0):2^n.log2<=n:=Nat.log2_self_le h
theorem cX(n:Nat):n<2^(n.log2+1):=Nat.lt_log2_self
theorem jH{n:Nat}(h:n≠0):n.testBit n.log2=true:=by
 apply Decidable.byContradiction;intro hc;have hb:n.testBit n.log2=false:=by simpa using hc
 have:n<2^n.log2:=Nat.lt_pow_two_of_testBit n fun i hi=>by
  by_cases e:i=n.log2
  ·rw[e];exact hb
  ·exact Nat.testBit_lt_two_pow (bc₀ (cX n) (Nat.pow_le_pow_right byO byO))
 have:=fe h;omega
theorem ko{n d:Nat}(h1:2^d<=n)(h2:n<2^(d+1)):n.log2=d:=by
 have hn:n≠0:=by have:0<2^d:=Nat.pow_pos byO;omega
 have h3:=fe hn;have h4:=cX n;have a:n.log2<d+1:=(Nat.pow_lt_pow_iff_right byO).1 (Nat.lt_of_le_of_lt h3 h2);have b:d<n.log2+1:=(Nat.pow_lt_pow_iff_right byO).1 (Nat.lt_of_le_of_lt h1 h4);omega
theorem xC{a b:Nat}(ha:a≠0)(hb:b≠0):(cl a b).testBit (a.log2+b.log2)=true:=by
 have:=congrFun (jV a b) (a.log2+b.log2);show bt (cl a b) (a.log2+b.log2)=true;rw[this];unfold cv;rw[jb (k:=a.log2) byO (fun i hi hne=>by
  by_cases h:a.log2<i
  ·rw[mG (cX a) i h,zero_mul]
  ·rw[mG (cX b) _ byO,mul_zero])]
 rw[show a.log2+b.log2-a.log2=b.log2 by omega];show(a.testBit a.log2&&b.testBit b.log2)=true;rw[jH ha,jH hb];rfl
theorem JH{a b:Nat}:cl a b<2^(a.log2+b.log2+1):=D8 (by
 rw[jV];exact Cg (mG (cX a)) (mG (cX b)))
theorem pt{a b:Nat}(ha:a≠0)(hb:b≠0):cl a b≠0:=by
 intro h;have:=xC ha hb;rw[h,Nat.zero_testBit]at this;cases this
theorem xB{a b:Nat}(ha:a≠0)(hb:b≠0):(cl a b).log2=a.log2+b.log2:=
 ko (Nat.ge_two_pow_of_testBit (xC ha hb)) JH
theorem mm{a b c:Nat}(h:a ^^^ b=c):a=c ^^^ b:=by rw[<-h,Nat.xor_assoc,Nat.xor_self,Nat.xor_zero]
theorem CH(q:Nat)(hq:q≠0):∀p,∃m r,r<2^q.log2/\p=cl q m ^^^ r:=by
 intro p
 induction p using Nat.strongRecOn with
 | _ p ih=>
  by_cases h:p<2^q.log2
  ·exact⟨0,p,h,by rw[fX,Nat.zero_xor]⟩
  ·have hp:p≠0:=by have:0<2^q.log2:=Nat.pow_pos byO;omega
   have hle:q.log2<=p.log2:=by
    have h1:=cX p;have:2^q.log2<2^(p.log2+1):=byO;have:=(Nat.pow_lt_pow_iff_right (by omega:1<2)).1 this;omega
   have hs:(q <<< (p.log2-q.log2)).log2=p.log2:=by
    rw[<-fu,xB hq (Nat.pos_iff_ne_zero.1 (Nat.pow_pos byO)),ko (Nat.le_refl _) (Nat.pow_lt_pow_right byO byO)];omega
   have hs0:q <<< (p.log2-q.log2)≠0:=by rw[<-fu];exact pt hq (Nat.pos_iff_ne_zero.1 (Nat.pow_pos byO))
   have hlt:p ^^^ q <<< (p.log2-q.log2)<2^p.log2:=Nat.lt_pow_two_of_testBit _ fun i hi=>by
    rw[Nat.testBit_xor];by_cases e:i=p.log2
    ·have:=jH hs0
     rw[hs]at this;rw[e,jH hp,this];rfl
    ·have h1:=mG (cX p) i byO
     have h2:=mG (cX (q <<< (p.log2-q.log2))) i byO;have h1:p.testBit i=false:=h1;have h2:(q <<< (p.log2-q.log2)).testBit i=false:=h2;rw[h1,h2];rfl
   obtain⟨m,r,hr,he⟩:=ih _ (bc₀ hlt (fe hp));refine⟨m ^^^ 2^(p.log2-q.log2),r,hr,?_⟩;rw[jO,fu]
   conv=>lhs;rw[mm he]
   rw[Nat.xor_assoc,Nat.xor_comm r,<-Nat.xor_assoc]
theorem vF{q m:Nat}(hq:q≠0)(h:cl q m<2^q.log2):m=0:=by
 apply Decidable.byContradiction;intro hm;have:=Nat.ge_two_pow_of_testBit (xC hq hm);have h2:2^q.log2<=2^(q.log2+m.log2):=Nat.pow_le_pow_right byO byO;omega
theorem EK{q m m' r r':Nat}(hq:q≠0)(hr:r<2^q.log2)(hr':r'<2^q.log2)(h:cl q m ^^^ r=cl q m' ^^^ r'):r=r':=by
 have e:cl q (m ^^^ m')=r ^^^ r':=by
  rw[jO];have h1:=mm h;rw[h1,Nat.xor_assoc,Nat.xor_assoc,Nat.xor_comm r (cl q m'),<-Nat.xor_assoc r',Nat.xor_comm r',<-Nat.xor_assoc,<-Nat.xor_assoc,Nat.xor_self,Nat.zero_xor,Nat.xor_comm]
 have hm:=vF hq (by rw[e];exact Nat.xor_lt_two_pow hr hr');rw[hm,fX]at e;have:=mm e.symm;rw[Nat.zero_xor]at this;exact this
def Irr(p:Nat):Prop:=∀t,2<=t->2*t.log2<=p.log2->¬ ∃m,p=cl t m
theorem Ak{p a b:Nat}(hi:Irr p)(ha:a<2^p.log2)(hb:b<2^p.log2)(hm:∃m,cl a b=cl p m):a=0\/b=0:=by
 apply Decidable.byContradiction;intro hc;have ha0:a≠0:=fun e=>hc (.inl e);have hb0:b≠0:=fun e=>hc (.inr e);have hp0:p≠0:=by
  rintro rfl;have h:Nat.log2 0=0:=by decide
  rw[h]at ha;omega
 obtain⟨a',_,⟨h1,h2,m,h3⟩,hmin⟩:=least (P:=fun a=>a≠0/\a<2^p.log2/\∃m,cl a b=cl p m) a ⟨ha0,ha,hm⟩;obtain⟨q,r,hr,he⟩:=CH a' h1 p;have hr0:r=0:=by
  apply Decidable.byContradiction;intro hr0;have hlt:r<a':=bc₀ hr (fe h1);refine hmin r hlt ⟨hr0,byO,b ^^^ cl q m,?_⟩;have e:r=p ^^^ cl a' q:=by rw[he,Nat.xor_comm (cl a' q) r,Nat.xor_assoc,Nat.xor_self,Nat.xor_zero]
  rw[jO,e,FB,fD a' q,jX,h3,<-jX,fD q p,jX]
 rw[hr0,Nat.xor_zero]at he;have hq0:q≠0:=by rintro rfl;rw[fX]at he;exact hp0 he
 have hlog:=xB h1 hq0;rw[<-he]at hlog;have ha2:2<=a':=by
  have:a'≠1:=by
   rintro rfl;rw[fD,ta]at h3;have:=vF hp0 (by rw[<-h3];exact hb);rw[this,fX]at h3;exact hb0 h3
  omega
 have hal:a'.log2<p.log2:=by
  have:=Nat.lt_of_le_of_lt (fe h1) h2;exact(Nat.pow_lt_pow_iff_right (by omega:1<2)).1 this
 have hq2:2<=q:=by
  have:q≠1:=by
   rintro rfl;have h:Nat.log2 1=0:=by decide
   omega
  omega
 rcases Nat.lt_or_ge p.log2 (2*a'.log2)with h|h
 ·exact hi q hq2 byO ⟨a',by rw[fD];exact he⟩
 ·exact hi a' ha2 h ⟨q,he⟩
structure FD where
 q:Nat
 poly:Nat
def FD.Ok(f:FD):Prop:=(f.poly=0/\2<f.q/\f.q<=4096/\Pr f.q)\/(f.poly≠0/\2<=f.poly/\f.poly.log2<=12/\f.q=2^f.poly.log2/\Irr f.poly)
structure El (f:FD) where
 val:Nat
 lt:val<f.q
theorem El.ext{f:FD}{a b:El f}(h:a.val=b.val):a=b:=by
 cases a;cases b;simp at h;subst h;rfl
theorem nP{p:Nat}(h:2<=p):1<=p.log2:=by
 have h1:=cX p;apply Decidable.byContradiction;intro hc;have:p.log2=0:=byO;rw[this]at h1;omega
theorem FD.Ok.two{f:FD}(h:f.Ok):2<=f.q/\f.q<=4096:=by
 rcases h with ⟨_,h1,h2,_⟩|⟨_,h1,h2,h3,_⟩
 ·omega
 ·rw[h3]
  have:=nP h1;have a:2^1<=2^f.poly.log2:=Nat.pow_le_pow_right byO this;have b:2^f.poly.log2<=2^12:=Nat.pow_le_pow_right byO h2;omega
theorem yJ(p q:Nat)(hq:q≠0):∃r,r<2^q.log2/\∃m,p=cl q m ^^^ r:=by
 obtain⟨m,r,h1,h2⟩:=CH q hq p;exact⟨r,h1,m,h2⟩
noncomputable def rm(p q:Nat):Nat:=if h:q≠0 then(yJ p q h).choose else 0
theorem wY{q:Nat}(hq:q≠0)(p:Nat):rm p q<2^q.log2:=by
 unfold rm;rw[dif_pos hq];exact(yJ p q hq).choose_spec.1
theorem rC{q:Nat}(hq:q≠0)(p:Nat):∃m,p=cl q m ^^^ rm p q:=by
 unfold rm;rw[dif_pos hq];exact(yJ p q hq).choose_spec.2
theorem tC{q:Nat}(hq:q≠0){p r m:Nat}(hr:r<2^q.log2)(h:p=cl q m ^^^ r):rm p q=r:=by
 obtain⟨m',h'⟩:=rC hq p;exact EK hq (wY hq p) hr (h'.symm.trans h)
theorem uc{q:Nat}(hq:q≠0)(p m:Nat):rm (p ^^^ cl q m) q=rm p q:=by
 obtain⟨m',h'⟩:=rC hq p;refine tC hq (wY hq p) (m:=m' ^^^ m) ?_;rw[jO]
 conv=>lhs;rw[h']
 rw[Nat.xor_assoc,Nat.xor_comm (rm p q),Nat.xor_assoc]
theorem iF{q r:Nat}(hq:q≠0)(hr:r<2^q.log2):rm r q=r:=tC hq hr (m:=0) (by rw[fX,Nat.zero_xor])
theorem ER{q:Nat}(hq:q≠0)(a b:Nat):rm (a ^^^ b) q=rm a q ^^^ rm b q:=by
 obtain⟨m,h⟩:=rC hq a;obtain⟨m',h'⟩:=rC hq b;refine tC hq (Nat.xor_lt_two_pow (wY hq a) (wY hq b)) (m:=m ^^^ m') ?_;rw[jO]
 conv=>lhs;rw[h,h']
 rw[Nat.xor_assoc,Nat.xor_assoc,<-Nat.xor_assoc (rm a q),Nat.xor_comm (rm a q),Nat.xor_assoc (cl q m')]
theorem ud{q:Nat}(hq:q≠0)(a b:Nat):rm (cl (rm a q) b) q=rm (cl a b) q:=by
 obtain⟨m,h⟩:=rC hq a;have e:cl a b=cl (rm a q) b ^^^ cl q (cl m b):=by
  conv=>lhs;rw[h]
  rw[FB,jX,Nat.xor_comm]
 rw[e,uc hq]
theorem HK{q:Nat}(hq:q≠0)(a b:Nat):rm (cl a (rm b q)) q=rm (cl a b) q:=by rw[fD,ud hq,fD]
noncomputable def ek(f:FD)(a b:Nat):Nat:=if f.poly=0 then(a+b)%f.q else a ^^^ b
noncomputable def eN(f:FD)(a b:Nat):Nat:=if f.poly=0 then a*b%f.q else rm (cl a b) f.poly
def qP(f:FD)(a:Nat):Nat:=if f.poly=0 then(f.q-a)%f.q else a
theorem yr{f:FD}(h:f.Ok){a b:Nat}(ha:a<f.q)(hb:b<f.q):ek f a b<f.q:=by
 unfold ek;rcases h with ⟨h0,h1,_⟩|⟨h0,h1,h2,h3,_⟩
 ·rw[if_pos h0];exact Nat.mod_lt _ byO
 ·rw[if_neg h0,h3];exact Nat.xor_lt_two_pow (by rw[<-h3];exact ha) (by rw[<-h3];exact hb)
theorem yt{f:FD}(h:f.Ok)(a b:Nat):eN f a b<f.q:=by
 unfold eN;rcases h with ⟨h0,h1,_⟩|⟨h0,h1,h2,h3,_⟩
 ·rw[if_pos h0];exact Nat.mod_lt _ byO
 ·rw[if_neg h0,h3];exact wY h0 _
theorem yu{f:FD}(h:f.Ok){a:Nat}(ha:a<f.q):qP f a<f.q:=by
 unfold qP;have:=h.two;split
 ·exact Nat.mod_lt _ byO
 ·exact ha
theorem A9(f:FD)(a b:Nat):eN f a b=eN f b a:=by
 unfold eN;rw[ba₀,fD]
theorem xd{f:FD}(h:f.Ok)(a b c:Nat):eN f (eN f a b) c=eN f a (eN f b c):=by
 unfold eN;rcases h with ⟨h0,h1,_⟩|⟨h0,h1,h2,h3,_⟩
 ·rw[if_pos h0,if_pos h0,if_pos h0,if_pos h0,Nat.mod_mul_mod,Nat.mul_mod_mod,Nat.mul_assoc]
 ·rw[if_neg h0,if_neg h0,if_neg h0,if_neg h0,ud h0,HK h0,jX]
theorem qO{f:FD}(h:f.Ok)(a b c:Nat):eN f a (ek f b c)=ek f (eN f a b) (eN f a c):=by
 unfold eN ek;rcases h with ⟨h0,h1,_⟩|⟨h0,h1,h2,h3,_⟩
 ·simp only[if_pos h0]
  rw[Nat.mul_mod_mod,Nat.mul_add,<-Nat.add_mod]
 ·simp only[if_neg h0]
  rw[jO,ER h0]
theorem yC{p a b:Nat}(hp:Pr p)(h:p ∣ a*b):p ∣ a\/p ∣ b:=by
 by_cases ha:p ∣ a
 ·exact .inl ha
 ·exact .inr (Nat.Coprime.dvd_of_dvd_mul_left (qv hp ha) h)
theorem ti{f:FD}(h:f.Ok){a b:Nat}(ha:a<f.q)(hb:b<f.q)(e:eN f a b=0):a=0\/b=0:=by
 unfold eN at e;rcases h with ⟨h0,h1,_,hp⟩|⟨h0,h1,h2,h3,hi⟩
 ·rw[if_pos h0]at e
  have hd:=Nat.dvd_of_mod_eq_zero e;rcases yC hp hd with h|h
  ·left
   apply Decidable.byContradiction;intro hc;have:=Nat.le_of_dvd byO h;omega
  ·right
   apply Decidable.byContradiction;intro hc;have:=Nat.le_of_dvd byO h;omega
 ·rw[if_neg h0]at e
  obtain⟨m,hm⟩:=rC h0 (cl a b);rw[e,Nat.xor_zero]at hm;exact Ak hi (by rw[<-h3];exact ha) (by rw[<-h3];exact hb) ⟨m,hm⟩
theorem nH{f:FD}(h:f.Ok){a:Nat}(ha:a<f.q):ek f a (qP f a)=0:=by
 unfold ek qP;rcases h with ⟨h0,h1,_⟩|⟨h0,h1,h2,h3,_⟩
 ·rw[if_pos h0,if_pos h0,Nat.add_mod_mod,show a+(f.q-a)=f.q by omega,Nat.mod_self]
 ·rw[if_neg h0,if_neg h0,Nat.xor_self]
theorem m6(f:FD)(a b c:Nat):ek f (ek f a b) c=ek f a (ek f b c):=by
 unfold ek;split
 ·rw[Nat.mod_add_mod,Nat.add_mod_mod,Nat.add_assoc]
 ·rw[Nat.xor_assoc]
theorem iM(f:FD)(a b:Nat):ek f a b=ek f b a:=by
 unfold ek;rw[Nat.add_comm,Nat.xor_comm]
theorem nw{f:FD}(h:f.Ok){a:Nat}(ha:a<f.q):ek f a 0=a:=by
 unfold ek;split
 ·rw[Nat.add_zero,Nat.mod_eq_of_lt ha]
 ·rw[Nat.xor_zero]
theorem Cy{f:FD}(h:f.Ok){a:Nat}(ha:a<f.q):eN f a 1=a:=by
 unfold eN;rcases h with ⟨h0,h1,_⟩|⟨h0,h1,h2,h3,_⟩
 ·rw[if_pos h0,Nat.mul_one,Nat.mod_eq_of_lt ha]
 ·rw[if_neg h0,ta,iF h0 (by rw[<-h3];exact ha)]
theorem Aa{f:FD}(h:f.Ok)(a:Nat):eN f a 0=0:=by
 unfold eN;rcases h with ⟨h0,h1,_⟩|⟨h0,h1,h2,h3,_⟩
 ·rw[if_pos h0];simp
 ·rw[if_neg h0,fX,iF h0 (Nat.pow_pos byO)]
theorem vZ{f:FD}(h:f.Ok){a b c:Nat}(ha:a<f.q)(hb:b<f.q)(hc:c<f.q)(e:ek f a b=ek f a c):b=c:=by
 have:ek f (qP f a) (ek f a b)=ek f (qP f a) (ek f a c):=by rw[e]
 rw[<-m6,<-m6,iM f (qP f a),nH h ha,iM f 0,iM f 0,nw h hb,nw h hc]at this;exact this
theorem th{f:FD}(h:f.Ok){a:Nat}(ha:a<f.q)(h0:a≠0):∃b,b<f.q/\eN f a b=1:=by
 refine pB (fun i _=>yt h a i) (fun i j hi hj e=>?_) (by have:=h.two;omega);have hn:=yu h hj;have e2:eN f a (ek f i (qP f j))=0:=by
  rw[qO h,e,<-qO h,nH h hj,Aa h]
 rcases ti h ha (yr h hi hn) e2 with h1|h1
 ·exact absurd h1 h0
 ·apply vZ h hn hi hj
  rw[iM f _ i,h1,iM f _ j,nH h hj]
@[reducible] noncomputable def FD.Ok.fd{f:FD}(h:f.Ok):Fd (El f) where
 add a b:=⟨ek f a.val b.val,yr h a.lt b.lt⟩
 mul a b:=⟨eN f a.val b.val,yt h _ _⟩
 neg a:=⟨qP f a.val,yu h a.lt⟩
 zero:=⟨0,by have:=h.two;omega⟩
 one:=⟨1,by have:=h.two;omega⟩
 inv a:=if e:a.val≠0 then⟨(th h a.lt e).choose,(th h a.lt e).choose_spec.1⟩ else a
 add_assoc' a b c:=El.ext (m6 f _ _ _)
 add_comm' a b:=El.ext (iM f _ _)
 add_zero' a:=El.ext (nw h a.lt)
 add_neg' a:=El.ext (nH h a.lt)
 mul_assoc' a b c:=El.ext (xd h _ _ _)
 mul_comm' a b:=El.ext (A9 f _ _)
 mul_one' a:=El.ext (Cy h a.lt)
 mul_add' a b c:=El.ext (qO h _ _ _)
 mul_inv' a ha:=by
  have e:a.val≠0:=fun e=>ha (El.ext e);apply El.ext;simp only[dif_pos e];exact(th h a.lt e).choose_spec.2
 one_ne':=by intro e;have:=congrArg El.val e;simp at this
 dec a b:=if e:a.val=b.val then isTrue (El.ext e) else isFalse fun e2=>e (by rw[e2])
noncomputable def FD.Ok.num{f:FD}(h:f.Ok):@Num (El f) h.fd:=@Num.mk (El f) h.fd f.q El.val El.lt (fun _ _=>El.ext) (fun i hi=>⟨⟨i,hi⟩,rfl⟩) rfl
end Go.RS
namespace Go.RS
class OkC (f:FD):Prop where
 ok:f.Ok
noncomputable instance {f:FD}[h:OkC f]:Fd (El f):=h.ok.fd
section
variable {f:FD}[OkC f]
theorem lJ:(0:El f).val=0:=rfl
theorem Eo:(1:El f).val=1:=rfl
theorem val_mul(a b:El f):(a*b).val=eN f a.val b.val:=rfl
theorem val_add(a b:El f):(a+b).val=ek f a.val b.val:=rfl
theorem fT{a:El f}(h:a≠0):a.val≠0:=fun e=>h (El.ext e)
theorem eR{a:El f}(h:a.val=0):a=0:=El.ext h
end
section
variable {K:Type}[Fd K]
theorem yH{g:K}{n:Nat}(hg:g≠0)(h:Ord g n):∀i j,i<n->j<n->pw g i=pw g j->i=j:=by
 have key:∀i k,i+k<n->pw g i=pw g (i+k)->k=0:=by
  intro i k hk e;rw[ff]at e;have e2:pw g k=1:=by
   symm
   apply mul_left_cancel (cL hg i);rw[mul_one];exact e
  apply Decidable.byContradiction;intro hk0;exact h.2.2 k byO byO e2
 intro i j hi hj e;rcases Nat.le_total i j with h|h
 ·have:=key i (j-i) byO (by rw[show i+(j-i)=j by omega];exact e);omega
 ·have:=key j (i-j) byO (by rw[show j+(i-j)=i by omega];exact e.symm);omega
theorem Num.pow_sur(N:Num K){g:K}(hg:g≠0)(h:Ord g (N.q-1)){x:K}(hx:x≠0):∃n,n<N.q-1/\pw g n=x:=by
 have hv:∀{y:K},y≠0->N.val y≠0:=fun hy e=>hy (N.inj _ 0 (by rw[e,N.v0]));obtain⟨n,hn,e⟩:=pB (q:=N.q-1) (f:=fun i=>N.val (pw g i)-1) (fun i hi=>by
   have h1:=N.lt (pw g i);have h2:=hv (cL hg i);omega) (fun i j hi hj e=>by
   have h1:=hv (cL hg i);have h2:=hv (cL hg j);exact yH hg h i j hi hj (N.inj _ _ byO)) (y:=N.val x-1) (by
   have h1:=N.lt x;have h2:=hv hx;omega)
 refine⟨n,hn,N.inj _ _ ?_⟩;have h1:=hv (cL hg n);have h2:=hv hx;omega
end
section
variable {f:FD}[OkC f]
theorem pow_sur{g:El f}(hg:g≠0)(h:Ord g (f.q-1)){x:El f}(hx:x≠0):∃n,n<f.q-1/\pw g n=x:=Num.pow_sur (OkC.ok (f:=f)).num hg h hx
end
section
variable {K:Type}[Fd K]
theorem DS{g:K}{n k m:Nat}(h:pw g n=1)(hk:k+m=n):inv (pw g k)=pw g m:=by
 apply lT;rw[<-ff,hk,h]
theorem K6{g:K}{n i j:Nat}(h:Ord g n)(hi:i<n)(hj:j<n):pw g ((i+n-j)%n)=pw g i*inv (pw g j):=by
 rw[ua h.2.1,DS (m:=n-j) h.2.1 byO,<-ff,show i+n-j=i+(n-j) by omega]
theorem G8{g:K}{n i j:Nat}(h:Ord g n):pw g ((i+j)%n)=pw g i*pw g j:=by
 rw[ua h.2.1,ff]
end
end Go.RS
namespace Go.RS
section
variable {K:Type}[Fd K]
def co(l:List K):Ser K:=fun i=>l.getD i 0
def tab(n:Nat)(F:Nat->K):List K:=(List.range n).map F
theorem aG(n:Nat)(F:Nat->K):(tab n F).length=n:=by simp[tab]
theorem px{l:List K}{i:Nat}(h:i<l.length):co l i=l[i]:=by
 unfold co;rw[au₀,bb₀ h];rfl
theorem kW{l:List K}{i:Nat}(h:l.length<=i):co l i=0:=by
 unfold co;rw[au₀,av₀ h];rfl
theorem eW{n:Nat}{F:Nat->K}{i:Nat}(h:i<n):(tab n F).getD i 0=F i:=by
 simp[tab,au₀,h]
theorem dL(n:Nat)(F:Nat->K)(i:Nat):co (tab n F) i=if i<n then F i else 0:=by
 split
 ·rename_i h;exact eW h
 ·rename_i h;exact kW (by rw[aG];omega)
theorem ah{n:Nat}{F G:Nat->K}(h:∀i,i<n->F i=G i):tab n F=tab n G:=by
 unfold tab;apply List.map_congr_left;intro i hi;exact h i (by simpa using hi)
theorem Ei(l:List K):tab l.length (co l)=l:=by
 apply List.ext_getElem (by rw[aG]);intro i h1 h2;simp only[tab,List.getElem_map,List.getElem_range];exact px h2
theorem kF{n:Nat}{F:Nat->K}{k:Nat}{v:K}:(tab n F).set k v=tab n (fun i=>if i=k then v else F i):=by
 apply List.ext_getElem
 ·simp[tab]
 ·intro i h1 h2
  rw[List.getElem_set];simp only[tab,List.getElem_map,List.getElem_range];split
  ·rename_i h;rw[if_pos h.symm]
  ·rename_i h;rw[if_neg (fun e=>h e.symm)]
theorem fA(n:Nat):List.replicate n (0:K)=tab n (fun _=>0):=by
 apply List.ext_getElem
 ·simp[tab]
 ·intro i h1 h2;simp[tab]
theorem M1{n:Nat}{F:Nat->K}{l:List K}(h:l.length=n)(h2:∀i,i<n->co l i=F i):l=tab n F:=by
 rw[<-Ei l,h];exact ah h2
theorem Nq(l:List K):dg (co l) (l.length-1):=fun i hi=>kW byO
def hor(l:List K)(x:K):K:=l.foldr (fun c v=>v*x+c) 0
theorem tu(x:K):∀l:List K,hor l x=sm l.length (fun i=>co l i*pw x i)
 | []=>rfl
 | c::l=>by
  show hor l x*x+c=_;rw[ak₀,lA,tu x l,n8];have e0:co (c::l) 0*pw x 0=c:=mul_one c;rw[e0,add_comm];congr 1;refine bD fun i hi=>?_;show co l i*pw x i*x=co l i*(pw x i*x);rw[mul_assoc]
theorem Kh{l:List K}{d:Nat}(h:dg (co l) d)(x:K):hor l x=pv (co l) d x:=by
 rw[tu];unfold pv;rcases Nat.le_total l.length (d+1)with h1|h1
 ·exact(jR h1 fun i a b=>by rw[kW a,zero_mul]).symm
 ·exact jR h1 fun i a b=>by rw[h i byO,zero_mul]
def c9(l:List K)(x:K):K:=l.foldl (fun v c=>v*x+c) 0
theorem vk(l m:List K)(x:K):c9 (l++m) x=m.foldl (fun v c=>v*x+c) (c9 l x):=by
 unfold c9;rw[List.foldl_append]
theorem ki{l:List K}{i:Nat}(h:i<l.length)(x:K):c9 (l.take (i+1)) x=c9 (l.take i) x*x+co l i:=by
 rw[List.take_add_one,bb₀ h,vk];show _*x+l[i]=_;rw[px h]
theorem DP(l:List K)(x:K):c9 l x=hor l.reverse x:=by
 unfold c9 hor;rw[List.foldr_reverse]
theorem Fq(x:K):∀l:List K,c9 l x=sm l.length (fun i=>co l i*pw x (l.length-1-i)):=by
 intro l;rw[DP,tu,List.length_reverse,yQ];refine bD fun i hi=>?_;have:co l.reverse (l.length-1-i)=co l i:=by
  rw[px (by rw[List.length_reverse];omega),px hi,List.getElem_reverse];congr 1;omega
 rw[this]
def rows(p q:Ser K)(i k:Nat):K:=sm i (fun a=>p a*sh a q k)
theorem zi{p q:Ser K}{n:Nat}(hp:∀i,n<=i->p i=0)(k:Nat):rows p q n k=cv p q k:=by
 unfold rows cv;have e1:sm (max n (k+1)) (fun a=>p a*sh a q k)=sm n (fun a=>p a*sh a q k):=jR byO fun i h1 h2=>by rw[hp i h1,zero_mul]
 have e2:sm (max n (k+1)) (fun a=>p a*sh a q k)=sm (k+1) (fun a=>p a*sh a q k):=jR byO fun i h1 h2=>by rw[ky _ byO,mul_zero]
 rw[<-e1,e2];exact bD fun i hi=>by rw[ja _ byO]
theorem tD(p q:Ser K)(i k:Nat):rows p q (i+1) k=rows p q i k+p i*sh i q k:=rfl
def bml(s:Ser K):Nat->Nat×Nat
 | 0=>(1,1)
 | n+1=>if cv (Reg.run s n).C s n=0 then bml s n
  else(max (bml s n).1 ((bml s n).2+(Reg.run s n).m),if 2*(Reg.run s n).L<=n then(bml s n).1 else(bml s n).2)
theorem nm(s:Ser K):∀n,(∀i,(bml s n).1<=i->(Reg.run s n).C i=0)/\(∀i,(bml s n).2<=i->(Reg.run s n).B i=0)/\1<=(bml s n).1
 | 0=>by
  refine⟨fun i hi=>?_,fun i hi=>?_,Nat.le_refl _⟩
  ·show(s1:Ser K) i=0
   unfold s1;rw[if_neg (by simp[bml]at hi;omega)]
  ·show(s1:Ser K) i=0
   unfold s1;rw[if_neg (by simp[bml]at hi;omega)]
 | n+1=>by
  obtain⟨h1,h2,h3⟩:=nm s n;simp only[bml,Reg.run,Reg.next];split
  ·exact⟨h1,h2,h3⟩
  ·have hC:∀i,max (bml s n).1 ((bml s n).2+(Reg.run s n).m)<=i->(Reg.run s n).C i-cv (Reg.run s n).C s n*inv (Reg.run s n).b*sh (Reg.run s n).m (Reg.run s n).B i=0:=by
    intro i hi;rw[h1 i byO,ja _ byO,h2 (i-(Reg.run s n).m) byO,mul_zero];exact(show(0-0)=0 from bu [((1:K))] (.add .zero (.neg .zero)) .zero rfl)
   split
   ·exact⟨hC,h1,by simp only;omega⟩
   ·exact⟨hC,h2,by simp only;omega⟩
def trim:List K->List K
 | []=>[]
 | a::l=>match trim l with
  | []=>if a=0 then[] else[a]
  | m=>a::m
theorem lI:∀l:List K,trim (l++[0])=trim l
 | []=>by simp[trim]
 | a::l=>by simp only[am₀,trim,lI l]
theorem nb{b:K}(hb:b≠0):∀l:List K,trim (l++[b])=l++[b]
 | []=>by simp[trim,hb]
 | a::l=>by
  simp only[am₀,trim,nb hb l];split
  ·rename_i h;simp at h
  ·rfl
theorem tM{l:List K}:∀{n:Nat},n<=l.length->(∀i,n<=i->co l i=0)->trim (l.take n)=trim l:=by
 intro n hn hz;have key:∀k,n+k<=l.length->trim (l.take (n+k))=trim (l.take n):=by
  intro k
  induction k with
  | zero=>intro _;rfl
  | succ k ih=>
   intro hk;rw[<-Nat.add_assoc,List.take_add_one,bb₀ (show n+k<l.length by omega)];have:l[n+k]=0:=by rw[<-px (show n+k<l.length by omega)];exact hz _ byO
   rw[this,Option.toList_some,lI,ih byO]
 have:=key (l.length-n) byO;rw[show n+(l.length-n)=l.length by omega,List.take_length]at this;exact this.symm
theorem tL{l:List K}{n:Nat}(hn:n<l.length)(h:co l n≠0):trim (l.take (n+1))=l.take (n+1):=by
 rw[List.take_add_one,bb₀ hn,Option.toList_some];exact nb (by rw[<-px hn];exact h) _
theorem yg:∀(l:List K) (i:Nat),co (trim l) i=co l i
 | [],_=>rfl
 | a::l,i=>by
  have ih:=yg l;simp only[trim];split
  ·rename_i h
   rw[h]at ih;split
   ·rename_i ha
    cases i with
    | zero=>rw[ha];rfl
    | succ i=>exact ih i
   ·cases i with
    | zero=>rfl
    | succ i=>exact ih i
  ·cases i with
   | zero=>rfl
   | succ i=>exact ih i
theorem lH:∀l:List K,(trim l).length<=l.length
 | []=>Nat.le_refl _
 | a::l=>by
  have:=lH l;simp only[trim];split
  ·split<;>simp
  ·simpa using this
end
end Go.RS
namespace Go.RS
section
variable {K:Type}[Fd K]
end
end Go.RS
namespace Go.RS
section
variable {K:Type}[Fd K]
def QO(rt:Nat->K)(r:Nat)(w:List K):Prop:=∀i,i<r->c9 w (rt i)=0
end
end Go.RS
namespace Go.RS
section
variable {K:Type}[Fd K]
theorem fS(X:K):∀l:List K,aX (l++[X])=cv (lin X) (aX l)
 | []=>rfl
 | Y::l=>by
  show cv (lin Y) (aX (l++[X]))=cv (lin X) (cv (lin Y) (aX l));rw[fS X l,<-dM,dS (lin Y),dM]
theorem qe:∀(l:List K) (j:Nat) (h:j<l.length),aX l=cv (lin l[j]) (aX (l.eraseIdx j))
 | [],j,h=>by simp at h
 | X::l,0,_=>rfl
 | X::l,j+1,h=>by
  have hj:j<l.length:=by simpa using h
  show cv (lin X) (aX l)=cv (lin l[j]) (cv (lin X) (aX (l.eraseIdx j)));rw[qe l j hj,<-dM,<-dM,dS (lin X)]
theorem xQ{p:Ser K}{s:Nat}(hp:dg p s){X:K}(hX:X≠0)(k:Nat):cv p (geo X) (s+k)=pw X (s+k)*pv p s (inv X):=by
 unfold cv pv;rw[jR (m:=s+1) byO (fun i h1 h2=>by rw[hp i byO,zero_mul]),kD];refine bD fun i hi=>?_;obtain⟨j,hj⟩:∃j,s+k=j+i:=⟨s+k-i,byO⟩;show p i*pw X (s+k-i)=_;rw[hj,show j+i-i=j by omega,ff];have:=mM (gN hX) i;have e:=(show(((pw X j)*(pw X i))*((p i)*(pw (inv X) i)))=(((p i)*(pw X j))*((pw X i)*(pw (inv X) i))) from bu [(p i),(pw X j),(pw X i),(pw (inv X) i)] (.mul (.mul (.v 1) (.v 2)) (.mul (.v 0) (.v 3))) (.mul (.mul (.v 0) (.v 1)) (.mul (.v 2) (.v 3))) rfl);rw[e,this,mul_one]
def thin(p:Ser K)(s:Nat)(l:List (K×K)):List (K×K):=l.map fun a=>(a.1*pw a.2 s*pv p s (inv a.2),a.2)
theorem sG{p:Ser K}{s:Nat}(hp:dg p s):∀(l:List (K×K)),(∀a ∈ l,a.2≠0)->∀k,cv p (gs l) (s+k)=gs (thin p s l) k
 | [],_,k=>by
  show cv p (fun _=>0) (s+k)=0;rw[tb]
 | (y,X)::l,h,k=>by
  have hX:=h (y,X) (by simp);show cv p (fun n=>y*geo X n+gs l n) (s+k)=y*pw X s*pv p s (inv X)*geo X k+gs (thin p s l) k;rw[qA,sI,xQ hp hX,sG hp l (fun a ha=>h a (by simp[ha])) k,ff];congr 1;show y*(pw X s*pw X k*pv p s (inv X))=y*pw X s*pv p s (inv X)*pw X k;exact(show(y*(((pw X s)*(pw X k))*(pv p s (inv X))))=(((y*(pw X s))*(pv p s (inv X)))*(pw X k)) from bu [y,(pw X s),(pw X k),(pv p s (inv X))] (.mul (.v 0) (.mul (.mul (.v 1) (.v 2)) (.v 3))) (.mul (.mul (.mul (.v 0) (.v 1)) (.v 3)) (.v 2)) rfl)
theorem tp(l m:List (K×K))(k:Nat):gs (l++m) k=gs l k+gs m k:=by
 induction l with
 | nil=>exact(zero_add _).symm
 | cons a l ih=>
  obtain⟨y,X⟩:=a;show y*geo X k+gs (l++m) k=y*geo X k+gs l k+gs m k;rw[ih,add_assoc]
theorem AB(p:Ser K)(s:Nat)(l:List (K×K)):xs (thin p s l)=xs l:=by simp[xs,thin]
theorem wc(p:Ser K)(s:Nat)(l:List (K×K)):(thin p s l).length=l.length:=by simp[thin]
theorem GG{S:Ser K}{r:Nat}(lE lF:List (K×K))(hS:∀k,k<r->S k=gs (lE++lF) k)(hX:∀a ∈ lE++lF,a.2≠0)(hy:∀a ∈ lF,a.1≠0)(hn:(xs (lE++lF)).Nodup)(hfew:2*lF.length+lE.length<=r) :
  (Reg.run (fun k=>cv S (aX (xs lE)) (lE.length+k)) (r-lE.length)).C=aX (xs lF)/\(Reg.run (fun k=>cv S (aX (xs lE)) (lE.length+k)) (r-lE.length)).L=lF.length:=by
 have hdE:=dt (xs lE);rw[fQ]at hdE;have hX1:∀a ∈ lF,a.2≠0:=fun a ha=>hX a (by simp[ha]);have hxs:xs (lE++lF)=xs lE++xs lF:=by simp[xs]
 rw[hxs]at hn;have hseq:∀k,k<r-lE.length->cv S (aX (xs lE)) (lE.length+k)=gs (thin (aX (xs lE)) lE.length lF) k:=by
  intro k hk;have e1:cv S (aX (xs lE)) (lE.length+k)=cv (fun k=>gs lE k+gs lF k) (aX (xs lE)) (lE.length+k):=
   kY (fun i hi=>by rw[hS i byO,tp]) (fun _ _=>rfl)
  rw[e1,vQ,dS,yh,o9 lE _ byO,zero_add,dS,sG hdE lF hX1]
 have hrun:=gW (fun k=>cv S (aX (xs lE)) (lE.length+k)) (r-lE.length);have hu:=AS hrun.gen hrun.min (thin (aX (xs lE)) lE.length lF) (by
  intro a ha;obtain⟨c,hc,rfl⟩:=List.mem_map.1 ha;have hcX:=hX1 c hc;refine mul_ne_zero (mul_ne_zero (hy c hc) (cL hcX _)) ?_;have hnot:c.2 ∉ xs lE:=by
   intro hm;have:=(List.nodup_append.1 hn).2.2 c.2 hm c.2 (List.mem_map.2 ⟨c,hc,rfl⟩);exact this rfl
  have:=iq hnot (gN hcX);rwa [fQ]at this) (by
  intro a ha;obtain⟨c,hc,rfl⟩:=List.mem_map.1 ha;exact hX1 c hc) (by rw[AB];exact(List.nodup_append.1 hn).2.1) hseq (by rw[wc];omega)
 rw[AB,wc]at hu;exact hu
def der(p:Ser K):Ser K:=fun n=>nsm 1 (n+1)*p (n+1)
theorem F3(X:K)(p:Ser K)(n:Nat):der (cv (lin X) p) n=cv (lin X) (der p) n-X*p n:=by
 unfold der;rw[mT];cases n with
 | zero=>
  rw[nD];show nsm 1 1*(p 1-X*p 0)=nsm 1 1*p 1-X*p 0;have e:nsm (1:K) 1=1:=zero_add 1;rw[e];exact(show(1*((p 1)-(X*(p 0))))=((1*(p 1))-(X*(p 0))) from bu [X,(p 1),(p 0)] (.mul .one (.add (.v 1) (.neg (.mul (.v 0) (.v 2))))) (.add (.mul .one (.v 1)) (.neg (.mul (.v 0) (.v 2)))) rfl)
 | succ n=>
  rw[mT];have e:nsm (1:K) (n+1+1)=nsm 1 (n+1)+1:=rfl;rw[e];exact(show(((nsm (1:K) (n+1))+1)*((p (n+1+1))-(X*(p (n+1)))))=(((((nsm (1:K) (n+1))+1)*(p (n+1+1)))-(X*((nsm (1:K) (n+1))*(p (n+1)))))-(X*(p (n+1)))) from bu [X,(nsm (1:K) (n+1)),(p (n+1+1)),(p (n+1))] (.mul (.add (.v 1) .one) (.add (.v 2) (.neg (.mul (.v 0) (.v 3))))) (.add (.add (.mul (.add (.v 1) .one) (.v 2)) (.neg (.mul (.v 0) (.mul (.v 1) (.v 3))))) (.neg (.mul (.v 0) (.v 3)))) rfl)
theorem K5{p:Ser K}{d:Nat}(h:dg p (d+1)):dg (der p) d:=fun i hi=>by
 show nsm 1 (i+1)*p (i+1)=0;rw[h (i+1) byO,mul_zero]
theorem Cd{l:List K}{j:Nat}(hj:j<l.length){x:K}(e:l[j]*x=1):pv (der (aX l)) (l.length-1) x=- (l[j]*pv (aX (l.eraseIdx j)) (l.length-1) x):=by
 have h1:=qe l j hj;have hl:=List.length_eraseIdx_of_lt hj;have hd:=dt (l.eraseIdx j);rw[hl]at hd;have hdd:dg (der (aX (l.eraseIdx j))) (l.length-1-1):=by
  by_cases h0:l.length-1=0
  ·intro i hi
   show nsm 1 (i+1)*aX (l.eraseIdx j) (i+1)=0;rw[hd (i+1) byO,mul_zero]
  ·exact K5 (by rw[show l.length-1-1+1=l.length-1 by omega];exact hd)
 have e2:der (aX l)=fun n=>cv (lin l[j]) (der (aX (l.eraseIdx j))) n+- (l[j]*aX (l.eraseIdx j) n):=by
  rw[h1];funext n;rw[F3];rfl
 rw[e2,yF];have e3:pv (cv (lin l[j]) (der (aX (l.eraseIdx j)))) (l.length-1) x=0:=by
  by_cases h0:l.length-1=0
  ·have hz:der (aX (l.eraseIdx j))=fun _=>0:=by
    funext n;show nsm 1 (n+1)*aX (l.eraseIdx j) (n+1)=0;rw[hd (n+1) byO,mul_zero]
   rw[hz,tb];exact eL fun i _=>zero_mul _
  ·have:=nU (kZ l[j]) hdd x
   rw[qx,e,sub_self,zero_mul,show 1+(l.length-1-1)=l.length-1 by omega]at this;exact this
 rw[e3,zero_add];have e4:(fun i=>- (l[j]*aX (l.eraseIdx j) i))=fun i=>(- l[j])*aX (l.eraseIdx j) i:=by
  funext i;rw[neg_mul]
 rw[e4,u7,neg_mul]
end
end Go.RS
namespace Go.RS
section
variable {K:Type}[Fd K]
def sel(φ:Nat->Bool)(n:Nat):List Nat:=(List.range n).filter φ
theorem ba(φ:Nat->Bool)(n:Nat):sel φ (n+1)=sel φ n++(if φ n=true then[n] else[]):=by
 unfold sel;rw[List.range_succ,List.filter_append];congr 1;cases h:φ n<;>simp[h]
theorem eK{φ:Nat->Bool}{n i:Nat}:i ∈ sel φ n↔i<n/\φ i=true:=by simp[sel]
theorem j9(φ:Nat->Bool)(n:Nat):(sel φ n).Nodup:=List.nodup_range.sublist List.filter_sublist
theorem oO{φ ψ:Nat->Bool}{n:Nat}(h:∀i,i<n->φ i=ψ i):sel φ n=sel ψ n:=by
 unfold sel;apply List.filter_congr;intro i hi;exact h i (by simpa using hi)
theorem rK{φ ψ:Nat->Bool}:∀{n:Nat},(∀i,i<n->φ i=true->ψ i=true)->(sel φ n).length<=(sel ψ n).length
 | 0,_=>by simp[sel]
 | n+1,h=>by
  have:=rK (n:=n) (fun i hi=>h i byO);rw[ba,ba,as₀,as₀];have h2:=h n byO;cases hφ:φ n with
  | false=>simp;omega
  | true=>rw[h2 hφ];simp;omega
def pr(X:Nat->K)(b:Nat)(ε:Nat->K)(l:List Nat):List (K×K):=l.map fun i=>(ε i*pw (X i) b,X i)
theorem ze(X:Nat->K)(b:Nat)(ε:Nat->K)(l:List Nat):xs (pr X b ε l)=l.map X:=by simp[xs,pr]
theorem uY(X:Nat->K)(b:Nat)(ε:Nat->K)(l:List Nat):(pr X b ε l).length=l.length:=by simp[pr]
theorem Kf(X:Nat->K)(b:Nat)(ε:Nat->K)(i k:Nat):gs (pr X b ε [i]) k=ε i*pw (X i) (b+k):=by
 show ε i*pw (X i) b*pw (X i) k+0=_;rw[add_zero,mul_assoc,<-ff]
theorem qU(X:Nat->K)(b:Nat)(ε:Nat->K)(l:List Nat)(i k:Nat):gs (pr X b ε (l++[i])) k=gs (pr X b ε l) k+ε i*pw (X i) (b+k):=by
 have:pr X b ε (l++[i])=pr X b ε l++pr X b ε [i]:=by simp[pr]
 rw[this,tp,Kf]
theorem zx{X:Nat->K}{b:Nat}{ε:Nat->K}{φ ψ:Nat->Bool}:∀{n:Nat},(∀i,i<n->φ i=false->ψ i=false->ε i=0)->(∀i,i<n->φ i=true->ψ i=false)->∀k,sm n (fun i=>ε i*pw (X i) (b+k))=gs (pr X b ε (sel φ n)++pr X b ε (sel ψ n)) k
 | 0,_,_,_=>rfl
 | n+1,h,h',k=>by
  rw[tp,cG,zx (fun i hi=>h i byO) (fun i hi=>h' i byO),tp,ba,ba];cases hφ:φ n with
  | true=>
   rw[if_pos rfl,qU,h' n byO hφ,if_neg (by simp),List.append_nil];exact(show(((gs (pr X b ε (sel φ n)) k)+(gs (pr X b ε (sel ψ n)) k))+(ε n*pw (X n) (b+k)))=(((gs (pr X b ε (sel φ n)) k)+(ε n*pw (X n) (b+k)))+(gs (pr X b ε (sel ψ n)) k)) from bu [(gs (pr X b ε (sel φ n)) k),(gs (pr X b ε (sel ψ n)) k),(ε n*pw (X n) (b+k))] (.add (.add (.v 0) (.v 1)) (.v 2)) (.add (.add (.v 0) (.v 2)) (.v 1)) rfl)
  | false=>
   rw[if_neg (by simp),List.append_nil];cases hψ:ψ n with
   | true=>rw[if_pos rfl,qU,add_assoc]
   | false=>rw[if_neg (by simp),List.append_nil,h n byO hφ hψ,zero_mul,add_zero]
def gam(X:Nat->K)(er:Nat->Bool):Nat->Ser K
 | 0=>s1
 | i+1=>if er i=true then cv (lin (X i)) (gam X er i) else gam X er i
theorem tk(X:Nat->K)(er:Nat->Bool):∀n,gam X er n=aX ((sel er n).map X)
 | 0=>rfl
 | n+1=>by
  rw[gam,ba,tk X er n];cases h:er n with
  | true=>rw[if_pos rfl,if_pos rfl,List.map_append,List.map_singleton,fS]
  | false=>rw[if_neg (by simp),if_neg (by simp),List.append_nil]
def isR(X:Nat->K)(er:Nat->Bool)(lam:List K)(i:Nat):Bool:=!er i&&decide (hor lam (inv (X i))=0)
def cK(X:Nat->K)(er:Nat->Bool)(lam:List K)(i:Nat):Bool:=er i || isR X er lam i
def pG(X:Nat->K)(b r:Nat)(S:Ser K)(P:List Nat)(i:Nat):K:=
 hor (tab r (cv S (aX (P.map X)))) (inv (X i))*inv (pw (X i) b*pv (aX ((P.filter fun k=>decide (k≠i)).map X)) (P.length-1) (inv (X i)))
structure Places (X:Nat->K)(n:Nat):Prop where
 ne:∀i,i<n->X i≠0
 inj:∀i j,i<n->j<n->X i=X j->i=j
theorem Places.nodup{X:Nat->K}{n:Nat}(h:Places X n){l:List Nat}(hl:l.Nodup)(hb:∀i ∈ l,i<n):(l.map X).Nodup:=by
 rw[List.nodup_iff_pairwise_ne,List.pairwise_map];refine List.Pairwise.imp_of_mem ?_ (List.nodup_iff_pairwise_ne.1 hl);intro a b ha hb' hne e;exact hne (h.inj a b (hb a ha) (hb b hb') e)
theorem wA{X:Nat->K}{n:Nat}(hX:Places X n){er:Nat->Bool}{lam:List K}(h1:co lam 0=1)(he:(sel (isR X er lam) n).length=lam.length-1):co lam=aX ((sel (isR X er lam) n).map X):=by
 have hb:∀i ∈ sel (isR X er lam) n,i<n:=fun i hi=>(eK.1 hi).1;have hn:=hX.nodup (j9 (isR X er lam) n) hb;have hd:=Nq lam;obtain⟨q,hq,hC⟩:=l8 ((sel (isR X er lam) n).map X) ((sel (isR X er lam) n).map fun i=>inv (X i)) (co lam) 0 (by simp) hn (fun i h h'=>by
   rw[List.getElem_map,List.getElem_map];exact gN (hX.ne _ (hb _ (List.getElem_mem _)))) (by rw[ay₀,Nat.add_zero,he];exact hd) (fun x hx=>by
   obtain⟨i,hi,rfl⟩:=List.mem_map.1 hx;rw[ay₀,Nat.add_zero,he,<-Kh hd];have:=(eK.1 hi).2;simp only[isR,ac₀,af₀]at this;exact this.2)
 have hq0:q 0=1:=by rwa [hC,pK,j3,one_mul]at h1
 have hqs:q=s1:=by
  funext i;unfold s1;split
  ·rename_i h;rw[h];exact hq0
  ·exact hq i byO
 rw[hC,hqs,dS,iT]
def tJ(S Γ:Ser K)(s:Nat):Ser K:=fun k=>cv S Γ (s+k)
theorem HC{X:Nat->K}{n r b:Nat}(hX:Places X n){er:Nat->Bool}{S:Ser K}{lam:List K}(hlam:co lam=(Reg.run (tJ S (aX ((sel er n).map X)) (sel er n).length) (r-(sel er n).length)).C)
  (he:(sel (isR X er lam) n).length=lam.length-1) (hfew:2*(sel (isR X er lam) n).length+(sel er n).length<=r) (ε:Nat->K) (hε:∀i,i<n->cK X er lam i=false->ε i=0) (hS:∀k,k<r->S k=sm n (fun i=>ε i*pw (X i) (b+k))) :
  (Reg.run (tJ S (aX ((sel er n).map X)) (sel er n).length) (r-(sel er n).length)).L=(sel (isR X er lam) n).length:=by
 have h1:co lam 0=1:=by rw[hlam];exact(gW _ _).gen.one
 have hll:=wA hX h1 he;generalize hφ:(fun i=>!er i&&decide (ε i≠0))=φ;have hsub:∀i,i<n->φ i=true->isR X er lam i=true:=by
  intro i hi h;rw[<-hφ]at h;simp only[ac₀,Bool.not_eq_true',af₀]at h;cases hb:cK X er lam i with
  | false=>exact absurd (hε i hi hb) h.2
  | true=>
   unfold cK at hb;rw[h.1,Bool.false_or]at hb;exact hb
 have hle:=rK hsub;have hgs:∀k,k<r->S k=gs (pr X b ε (sel er n)++pr X b ε (sel φ n)) k:=by
  intro k hk;rw[hS k hk];refine zx (fun i hi h1 h2=>?_) (fun i hi h=>?_) k
  ·rw[<-hφ]at h2
   simp only[h1,Bool.not_false,Bool.true_and,ai₀]at h2;exact Classical.not_not.1 h2
  ·rw[<-hφ];simp[h]
 have hlocs:=GG (pr X b ε (sel er n)) (pr X b ε (sel φ n)) hgs (by
   intro a ha;rcases List.mem_append.1 ha with ha|ha
   ·obtain⟨i,hi,rfl⟩:=List.mem_map.1 ha
    exact hX.ne i (eK.1 hi).1
   ·obtain⟨i,hi,rfl⟩:=List.mem_map.1 ha
    exact hX.ne i (eK.1 hi).1) (by
   intro a ha;obtain⟨i,hi,rfl⟩:=List.mem_map.1 ha;have h2:=eK.1 hi;rw[<-hφ]at h2;simp only[ac₀,af₀]at h2;exact mul_ne_zero h2.2.2 (cL (hX.ne i h2.1) _)) (by
   have e:xs (pr X b ε (sel er n)++pr X b ε (sel φ n))=(sel er n++sel φ n).map X:=by rw[List.map_append,<-ze X b ε,<-ze X b ε];exact List.map_append
   rw[e];refine hX.nodup (List.nodup_append.2 ⟨j9 _ _,j9 _ _,?_⟩) (fun i hi=>?_)
   ·intro i hi j hj e2
    have h2:=(eK.1 hi).2;have h3:=(eK.1 hj).2;rw[<-hφ,<-e2]at h3;simp[h2]at h3
   ·rcases List.mem_append.1 hi with h|h
    ·exact(eK.1 h).1
    ·exact(eK.1 h).1) (by rw[uY,uY];omega)
 rw[uY,uY,ze,ze]at hlocs;have hC:co lam=aX ((sel φ n).map X):=by rw[hlam];exact hlocs.1
 have htop:=qf ((sel (isR X er lam) n).map X) (by
  intro x hx;obtain⟨i,hi,rfl⟩:=List.mem_map.1 hx;exact hX.ne i (eK.1 hi).1)
 rw[<-hll,hC,ay₀]at htop;have hdeg:=dt ((sel φ n).map X);rw[ay₀]at hdeg;have hge:(sel (isR X er lam) n).length<=(sel φ n).length:=by
  apply Decidable.byContradiction;intro hc;exact htop (hdeg _ byO)
 have:=hlocs.2;unfold tJ;omega
theorem sK(X:Nat->K):∀(P:List Nat) (j:Nat),(P.map X).eraseIdx j=(P.eraseIdx j).map X
 | [],_=>rfl
 | _::_,0=>rfl
 | a::P,j+1=>by
  show X a::(P.map X).eraseIdx j=X a::(P.eraseIdx j).map X;rw[sK X P j]
theorem erase_filter{P:List Nat}(hn:P.Nodup){j:Nat}(hj:j<P.length)(X:Nat->K):(P.map X).eraseIdx j=(P.filter fun k=>decide (k≠P[j])).map X:=by
 rw[sK];congr 1
 induction P generalizing j with
 | nil=>simp at hj
 | cons a P ih=>
  have hna:=(List.nodup_cons.1 hn).1;cases j with
  | zero=>
   show P=List.filter (fun k=>decide (k≠a)) (a::P);rw[List.filter_cons_of_neg (by simp)]
   symm
   rw[List.filter_eq_self];intro k hk;simp;intro e;exact hna (e▸hk)
  | succ j=>
   have hj':j<P.length:=by simpa using hj
   show a::P.eraseIdx j=List.filter (fun k=>decide (k≠P[j])) (a::P);rw[List.filter_cons_of_pos (by simp;intro e;exact hna (e▸List.getElem_mem _)),ih (List.nodup_cons.1 hn).2 hj']
end
end Go.RS
namespace Go.RS
section
variable {K:Type}[Fd K]
def plc(g:K)(n i:Nat):K:=pw g (n-1-i)
theorem gC{g:K}{n m:Nat}(hg:g≠0)(h:Ord g m)(hn:n<=m):Places (plc g n) n where
 ne:=fun i _=>cL hg _
 inj:=fun i j hi hj e=>by
  have:=yH hg h (n-1-i) (n-1-j) byO byO e;omega
theorem vm(g:K)(w:List K)(m:Nat):c9 w (pw g m)=sm w.length (fun i=>co w i*pw (plc g w.length i) m):=by
 rw[Fq];refine bD fun i _=>?_;unfold plc;rw[<-dZ,<-dZ,ba₀]
def syS(g:K)(r b:Nat)(w:List K):Ser K:=co (tab r (fun i=>c9 w (pw g (b+i))))
theorem MZ{g:K}{r b k:Nat}(w:List K)(hk:k<r):syS g r b w k=c9 w (pw g (b+k)):=by
 unfold syS;rw[dL,if_pos hk]
def sC(er:Nat->Bool)(n:Nat):Nat:=(sel er n).length
def hO(X:Nat->K)(er:Nat->Bool)(n r:Nat)(S:Ser K):List K:=(tab r (cv S (gam X er n))).drop (sC er n)
theorem FU(l:List K)(s k:Nat):co (l.drop s) k=co l (s+k):=by
 unfold co;rw[au₀,au₀,List.getElem?_drop]
theorem iP(X:Nat->K)(er:Nat->Bool)(n r:Nat)(S:Ser K):(hO X er n r S).length=r-sC er n:=by
 unfold hO;rw[List.length_drop,aG]
theorem wb(X:Nat->K)(er:Nat->Bool)(n r:Nat)(S:Ser K):Reg.run (co (hO X er n r S)) (hO X er n r S).length=Reg.run (tJ S (aX ((sel er n).map X)) (sel er n).length) (r-(sel er n).length):=by
 rw[iP];refine tE fun k hk=>?_;unfold hO tJ;rw[FU,dL,if_pos (by unfold sC at hk ⊢;omega),tk];rfl
def GC(s:List K):List K:=trim (tab (bml (co s) s.length).1 (Reg.run (co s) s.length).C)
def cV(X:Nat->K)(er:Nat->Bool)(n r:Nat)(S:Ser K):List K:=GC (hO X er n r S)
theorem CJ(X:Nat->K)(er:Nat->Bool)(n r:Nat)(S:Ser K):co (cV X er n r S)=(Reg.run (tJ S (aX ((sel er n).map X)) (sel er n).length) (r-(sel er n).length)).C:=by
 funext i;unfold cV GC;rw[yg,dL,<-wb];split
 ·rfl
 ·exact((nm _ _).1 i byO).symm
theorem uC(X:Nat->K)(er:Nat->Bool)(n r:Nat)(S:Ser K):co (cV X er n r S) 0=1:=by
 rw[CJ];exact(gW _ _).gen.one
def Al(X:Nat->K)(er:Nat->Bool)(n r:Nat)(S:Ser K):Nat:=(Reg.run (co (hO X er n r S)) (hO X er n r S).length).L
def gA(g:K)(r b:Nat)(w:List K)(er:Nat->Bool):List K:=
 let X:=plc g w.length
 let S:=syS g r b w
 let lam:=cV X er w.length r S
 tab w.length (fun i=>if cK X er lam i=true then co w i-pG X b r S (sel (cK X er lam) w.length) i else co w i)
theorem j0(g:K)(r b:Nat)(w:List K)(er:Nat->Bool):(gA g r b w er).length=w.length:=aG _ _
def rY(g:K)(r b:Nat)(w:List K):Prop:=∀k,k<r->c9 w (pw g (b+k))=0
structure DecOK (g:K)(r b:Nat)(w:List K)(er:Nat->Bool):Prop where
 few:sC er w.length<=r
 cap:2*((cV (plc g w.length) er w.length r (syS g r b w)).length-1)+sC er w.length<=r
 num:(sel (isR (plc g w.length) er (cV (plc g w.length) er w.length r (syS g r b w))) w.length).length=(cV (plc g w.length) er w.length r (syS g r b w)).length-1
 cw:rY g r b (gA g r b w er)
theorem Af(g:K){w c:List K}(hl:c.length=w.length)(m:Nat):sm w.length (fun i=>(co w i-co c i)*pw (plc g w.length i) m)=c9 w (pw g m)-c9 c (pw g m):=by
 rw[vm,vm,hl,sub_def,yP,<-oP];refine bD fun i _=>?_;exact(show(((co w i)-(co c i))*(pw (plc g w.length i) m))=(((co w i)*(pw (plc g w.length i) m))+(-((co c i)*(pw (plc g w.length i) m)))) from bu [(co w i),(co c i),(pw (plc g w.length i) m)] (.mul (.add (.v 0) (.neg (.v 1))) (.v 2)) (.add (.mul (.v 0) (.v 2)) (.neg (.mul (.v 1) (.v 2)))) rfl)
theorem DecOK.reg{g:K}{r b m:Nat}{w:List K}{er:Nat->Bool}(hg:g≠0)(ho:Ord g m)(hn:w.length<=m)(h:DecOK g r b w er):Al (plc g w.length) er w.length r (syS g r b w)=(sel (isR (plc g w.length) er (cV (plc g w.length) er w.length r (syS g r b w))) w.length).length:=by
 unfold Al;rw[wb];have hcap:=h.cap;rw[<-h.num]at hcap;refine HC (b:=b) (gC hg ho hn) (CJ _ _ _ _ _) h.num hcap (fun i=>co w i-co (gA g r b w er) i) (fun i hi hb=>?_) (fun k hk=>?_)
 ·show co w i-co (gA g r b w er) i=0
  unfold gA;rw[dL,if_pos hi,if_neg (by rw[hb];simp),sub_self]
 ·rw[Af g (j0 g r b w er),h.cw k hk,MZ w hk]
  exact(show(c9 w (pw g (b+k)))=((c9 w (pw g (b+k)))-0) from bu [(c9 w (pw g (b+k)))] (.v 0) (.add (.v 0) (.neg .zero)) rfl)
theorem wB{X:Nat->K}{φ ψ:Nat->Bool}:∀{n:Nat},(∀i,i<n->ψ i=true->φ i=false)->cv (aX ((sel φ n).map X)) (aX ((sel ψ n).map X))=aX ((sel (fun i=>φ i || ψ i) n).map X)
 | 0,_=>iT _
 | n+1,h=>by
  have ih:=wB (X:=X) (φ:=φ) (ψ:=ψ) (n:=n) (fun i hi=>h i byO);rw[ba,ba,ba,List.map_append,List.map_append,List.map_append];cases hψ:ψ n with
  | true=>
   rw[h n byO hψ];simp only[Bool.false_or,if_true,ah₀,if_false,al₀,List.append_nil,ag₀];rw[fS,fS,<-ih,<-dM,<-dM,dS _ (lin (X n))]
  | false=>
   cases hφ:φ n with
   | true=>
    simp only[Bool.or_false,if_true,ah₀,if_false,al₀,List.append_nil,ag₀];rw[fS,fS,<-ih,dM]
   | false=>
    simp only[Bool.or_false,ah₀,if_false,al₀,List.append_nil];exact ih
theorem AV{X:Nat->K}{n r:Nat}(hX:Places X n){er:Nat->Bool}{S:Ser K}(hnum:(sel (isR X er (cV X er n r S)) n).length=(cV X er n r S).length-1):cv (gam X er n) (co (cV X er n r S))=aX ((sel (cK X er (cV X er n r S)) n).map X):=by
 rw[tk,wA hX (uC _ _ _ _ _) hnum];refine wB fun i _ h=>?_;unfold isR at h;simp only[ac₀,Bool.not_eq_true']at h;exact h.1
theorem Bx{X:Nat->K}{n:Nat}{er:Nat->Bool}{lam:List K}:(sel (cK X er lam) n).length=(sel er n).length+(sel (isR X er lam) n).length:=by
 induction n with
 | zero=>rfl
 | succ n ih=>
  rw[ba,ba,ba,as₀,as₀,as₀,ih];unfold cK isR;cases er n<;>cases decide (hor lam (inv (X n))=0)<;>simp<;>omega
theorem w7{X:Nat->K}{n:Nat}(hX:Places X n){P:List Nat}(hP:P.Nodup)(hb:∀i ∈ P,i<n){i:Nat}(hi:i ∈ P):pv (der (aX (P.map X))) (P.length-1) (inv (X i))=- (X i*pv (aX ((P.filter fun k=>decide (k≠i)).map X)) (P.length-1) (inv (X i)))/\pv (aX ((P.filter fun k=>decide (k≠i)).map X)) (P.length-1) (inv (X i))≠0:=by
 obtain⟨j,hj,hji⟩:=List.getElem_of_mem hi;have hXi:=hX.ne i (hb i hi);have hlt:j<(P.map X).length:=by simpa using hj
 have hd:=Cd (l:=P.map X) (j:=j) hlt (x:=inv (X i)) (by rw[List.getElem_map,hji];exact gN hXi);rw[List.getElem_map,erase_filter hP hj,hji,ay₀]at hd;refine⟨hd,?_⟩;have hlen2:((P.filter fun k=>decide (k≠i)).map X).length=P.length-1:=by
  have:=congrArg List.length (erase_filter hP hj X);rw[List.length_eraseIdx_of_lt (by simpa using hj),ay₀]at this;rw[<-hji];exact this.symm
 rw[<-hlen2];refine iq (X:=X i) (fun hm=>?_) (gN hXi);obtain⟨k,hk,e⟩:=List.mem_map.1 hm;have hk2:=List.mem_filter.1 hk;have:=hX.inj k i (hb k hk2.1) (hb i hi) e;simp[this]at hk2
theorem Q4{g:K}{m n b r i:Nat}(hg:g≠0)(ho:Ord g m)(hn:n<=m){S:Ser K}{P:List Nat}(hP:P.Nodup)(hb:∀i ∈ P,i<n)(hi:i ∈ P) :
  pw g ((n-1-i)*(b+(m-1)))*pv (der (aX (P.map (plc g n)))) (P.length-1) (inv (plc g n i))≠0 /\
  hor (tab r (cv S (aX (P.map (plc g n))))) (inv (plc g n i))*inv (pw g ((n-1-i)*(b+(m-1)))*pv (der (aX (P.map (plc g n)))) (P.length-1) (inv (plc g n i)))=- pG (plc g n) b r S P i:=by
 have hX:=gC hg ho hn;obtain⟨h1,h2⟩:=w7 hX hP hb hi;have hXi:=hX.ne i (hb i hi);have hpw:pw (plc g n i) (m-1)*plc g n i=1:=by
  rw[<-eD,Nat.sub_add_cancel ho.1];unfold plc;rw[<-dZ,ba₀,dZ,ho.2.1,gn]
 have hfac:pw g ((n-1-i)*(b+(m-1)))=pw (plc g n i) b*pw (plc g n i) (m-1):=by
  rw[dZ,ff];rfl
 have hdv:pw g ((n-1-i)*(b+(m-1)))*pv (der (aX (P.map (plc g n)))) (P.length-1) (inv (plc g n i))=- (pw (plc g n i) b*pv (aX ((P.filter fun k=>decide (k≠i)).map (plc g n))) (P.length-1) (inv (plc g n i))):=by
  rw[h1,hfac];generalize pv (aX ((P.filter fun k=>decide (k≠i)).map (plc g n))) (P.length-1) (inv (plc g n i))=D;have e:pw (plc g n i) b*pw (plc g n i) (m-1)*-(plc g n i*D)=-(pw (plc g n i) b*D*(pw (plc g n i) (m-1)*plc g n i)):=(show(((pw (plc g n i) b)*(pw (plc g n i) (m-1)))*(-((plc g n i)*(D))))=(-(((pw (plc g n i) b)*(D))*((pw (plc g n i) (m-1))*(plc g n i)))) from bu [(pw (plc g n i) b),(pw (plc g n i) (m-1)),(plc g n i),(D)] (.mul (.mul (.v 0) (.v 1)) (.neg (.mul (.v 2) (.v 3)))) (.neg (.mul (.mul (.v 0) (.v 3)) (.mul (.v 1) (.v 2)))) rfl);rw[e,hpw,mul_one]
 rw[hdv];unfold pG;have hne:=mul_ne_zero (cL hXi b) h2;generalize pw (plc g n i) b*pv (aX ((P.filter fun k=>decide (k≠i)).map (plc g n))) (P.length-1) (inv (plc g n i))=E at *;refine⟨neg_ne_zero hne,?_⟩;have hi2:inv (-E)=- inv E:=lT (by rw[neg_mul,mul_neg,neg_neg,gN hne]);rw[hi2,mul_neg]
theorem xg{M:Nat}(F:Ser K)(x:K)(h:1<=M):hor (tab M F) x=pv F (M-1) x:=by
 rw[tu,aG];unfold pv;rw[Nat.sub_add_cancel h];refine bD fun i hi=>?_;rw[dL,if_pos hi]
end
end Go.RS
namespace Go.RS
def f7:FD:=⟨7,0⟩
theorem pr7:Pr 7:=⟨by decide,fun d h1 h2=>by
 have:d=2\/d=3\/d=4\/d=5\/d=6:=byO;rcases this with rfl|rfl|rfl|rfl|rfl<;>decide⟩
instance ok7:OkC f7:=⟨.inl ⟨rfl,by decide,by decide,pr7⟩⟩
def e7(n:Nat)(h:n<7:=by decide):El f7:=⟨n,h⟩
end Go.RS
