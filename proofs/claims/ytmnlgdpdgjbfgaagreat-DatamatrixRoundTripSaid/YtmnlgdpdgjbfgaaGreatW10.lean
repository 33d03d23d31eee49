/- Lemmas. -/
import Derived.Test.YtmnlgdpdgjbfgaaGreatW1
import Derived.KernelRfl
set_option linter.all false
namespace Go.RS
class Fd (K:Type) where
 add:K->K->K
 mul:K->K->K
 neg:K->K
 zero:K
 one:K
 inv:K->K
 add_assoc':∀a b c,add (add a b) c=add a (add b c)
 add_comm':∀a b,add a b=add b a
 add_zero':∀a,add a zero=a
 add_neg':∀a,add a (neg a)=zero
 mul_assoc':∀a b c,mul (mul a b) c=mul a (mul b c)
 mul_comm':∀a b,mul a b=mul b a
 mul_one':∀a,mul a one=a
 mul_add':∀a b c,mul a (add b c)=add (mul a b) (mul a c)
 mul_inv':∀a,a≠zero->mul a (inv a)=one
 one_ne':one≠zero
 dec:DecidableEq K
section
variable {K:Type}[Fd K]
instance (priority:=50):Add K:=⟨Fd.add⟩
instance (priority:=50):Mul K:=⟨Fd.mul⟩
instance (priority:=50):Neg K:=⟨Fd.neg⟩
instance (priority:=50):Sub K:=⟨fun a b=>Fd.add a (Fd.neg b)⟩
instance (priority:=50):OfNat K 0:=⟨Fd.zero⟩
instance (priority:=50):OfNat K 1:=⟨Fd.one⟩
instance (priority:=50):DecidableEq K:=Fd.dec
def inv(a:K):K:=Fd.inv a
theorem add_assoc(a b c:K):a+b+c=a+(b+c):=Fd.add_assoc' a b c
theorem add_comm(a b:K):a+b=b+a:=Fd.add_comm' a b
theorem add_zero(a:K):a+0=a:=Fd.add_zero' a
theorem zero_add(a:K):0+a=a:=by rw[add_comm,add_zero]
theorem add_neg(a:K):a+-a=0:=Fd.add_neg' a
theorem kQ(a:K):-a+a=0:=by rw[add_comm,add_neg]
theorem sub_def(a b:K):a-b=a+-b:=rfl
theorem mul_assoc(a b c:K):a*b*c=a*(b*c):=Fd.mul_assoc' a b c
theorem mul_comm(a b:K):a*b=b*a:=Fd.mul_comm' a b
theorem mul_one(a:K):a*1=a:=Fd.mul_one' a
theorem one_mul(a:K):1*a=a:=by rw[mul_comm,mul_one]
theorem mul_add(a b c:K):a*(b+c)=a*b+a*c:=Fd.mul_add' a b c
theorem add_mul(a b c:K):(a+b)*c=a*c+b*c:=by rw[mul_comm,mul_add,mul_comm c a,mul_comm c b]
theorem eC{a:K}(h:a≠0):a*inv a=1:=Fd.mul_inv' a h
theorem inv_mul{a:K}(h:a≠0):inv a*a=1:=by rw[mul_comm,eC h]
theorem j3:(1:K)≠0:=Fd.one_ne'
theorem add_left_cancel{a b c:K}(h:a+b=a+c):b=c:=by
 have:-a+(a+b)=-a+(a+c):=by rw[h]
 rwa [<-add_assoc,<-add_assoc,kQ,zero_add,zero_add]at this
theorem mul_zero(a:K):a*0=0:=by
 have:a*0+a*0=a*0+0:=by rw[<-mul_add,add_zero,add_zero]
 exact add_left_cancel this
theorem zero_mul(a:K):0*a=0:=by rw[mul_comm,mul_zero]
theorem iT{a b:K}(h:a+b=0):-a=b:=by
 apply add_left_cancel (a:=a);rw[add_neg,h]
theorem neg_mul(a b:K):-a*b=-(a*b):=by
 symm;apply iT;rw[<-add_mul,add_neg,zero_mul]
theorem mul_neg(a b:K):a*-b=-(a*b):=by rw[mul_comm,neg_mul,mul_comm]
theorem neg_neg(a:K):- -a=a:=iT (kQ a)
theorem neg_zero:-(0:K)=0:=iT (add_zero 0)
theorem neg_add(a b:K):-(a+b)=-a+-b:=by
 apply iT;rw[add_assoc,<-add_assoc b,add_comm b,add_assoc (-a),add_neg,add_zero,add_neg]
theorem sub_self(a:K):a-a=0:=add_neg a
theorem sub_eq_zero{a b:K}(h:a-b=0):a=b:=by
 have:a-b+b=0+b:=by rw[h]
 rwa [sub_def,add_assoc,kQ,add_zero,zero_add]at this
theorem mul_eq_zero{a b:K}(h:a*b=0):a=0\/b=0:=by
 by_cases ha:a=0
 ·exact .inl ha
 ·right
  have:inv a*(a*b)=inv a*0:=by rw[h]
  rwa [<-mul_assoc,inv_mul ha,one_mul,mul_zero]at this
theorem mul_ne_zero{a b:K}(ha:a≠0)(hb:b≠0):a*b≠0:=fun h=>(mul_eq_zero h).elim ha hb
theorem mul_left_cancel{a b c:K}(ha:a≠0)(h:a*b=a*c):b=c:=by
 have:inv a*(a*b)=inv a*(a*c):=by rw[h]
 rwa [<-mul_assoc,<-mul_assoc,inv_mul ha,one_mul,one_mul]at this
theorem pG{a b:K}(h:a*b=1):inv a=b:=by
 have ha:a≠0:=by rintro rfl;rw[zero_mul]at h;exact j3 h.symm
 apply mul_left_cancel ha;rw[eC ha,h]
theorem inv_inv{a:K}(ha:a≠0):inv (inv a)=a:=pG (inv_mul ha)
theorem neg_ne_zero{a:K}(h:a≠0):-a≠0:=fun e=>h (by rw[<-neg_neg a,e,neg_zero])
def pw(a:K):Nat->K
 | 0=>1
 | n+1=>pw a n*a
theorem gM(a:K):pw a 0=1:=rfl
theorem fi(a:K)(n:Nat):pw a (n+1)=pw a n*a:=rfl
theorem wM(a:K):pw a 1=a:=by rw[fi,gM,one_mul]
theorem eh(a:K)(m:Nat):∀n,pw a (m+n)=pw a m*pw a n
 | 0=>by rw[gM,mul_one];rfl
 | n+1=>by rw[<-Nat.add_assoc,fi,eh a m n,fi,mul_assoc]
theorem nX(a:K)(m:Nat):∀n,pw a (m*n)=pw (pw a m) n
 | 0=>rfl
 | n+1=>by rw[Nat.mul_succ,eh,nX a m n,fi]
theorem vy:∀n,pw (1:K) n=1
 | 0=>rfl
 | n+1=>by rw[fi,vy n,mul_one]
theorem Ft(a b:K):∀n,pw (a*b) n=pw a n*pw b n
 | 0=>by rw[gM,gM,gM,mul_one]
 | n+1=>by rw[fi,fi,fi,Ft a b n,mul_assoc,mul_assoc,<-mul_assoc (pw b n) a b,mul_comm (pw b n) a,mul_assoc a]
theorem cJ{a:K}(h:a≠0):∀n,pw a n≠0
 | 0=>j3
 | n+1=>mul_ne_zero (cJ h n) h
end
inductive RE where
 | v (n:Nat)
 | zero
 | one
 | add (a b:RE)
 | mul (a b:RE)
 | neg (a:RE)
abbrev m7:=List Nat
abbrev Pol:=List (Int×m7)
def C8:m7->m7->Ordering
 | [],[]=>.eq
 | [],_=>.lt
 | _,[]=>.gt
 | a::x,b::y=>if a<b then .lt else if b<a then .gt else C8 x y
def Ca(a:Nat):m7->m7
 | []=>[a]
 | b::y=>if a<=b then a::b::y else b::Ca a y
def Fm:m7->m7->m7
 | [],y=>y
 | a::x,y=>Ca a (Fm x y)
def qE(c:Int)(m:m7):Pol->Pol
 | []=>if c=0 then[] else[(c,m)]
 | (d,n)::r=>match C8 m n with
  | .lt=>if c=0 then(d,n)::r else(c,m)::(d,n)::r
  | .eq=>if c+d=0 then r else(c+d,n)::r
  | .gt=>(d,n)::qE c m r
def Cl:Pol->Pol->Pol
 | [],q=>q
 | (c,m)::p,q=>qE c m (Cl p q)
def uQ(c:Int)(m:m7):Pol->Pol
 | []=>[]
 | (d,n)::r=>qE (c*d) (Fm m n) (uQ c m r)
def GS:Pol->Pol->Pol
 | [],_=>[]
 | (c,m)::p,q=>Cl (uQ c m q) (GS p q)
def RE.norm:RE->Pol
 | .v n=>[(1,[n])]
 | .zero=>[]
 | .one=>[(1,[])]
 | .add a b=>Cl a.norm b.norm
 | .mul a b=>GS a.norm b.norm
 | .neg a=>uQ (-1) [] a.norm
section
variable {K:Type}[Fd K]
def RE.den(env:List K):RE->K
 | .v n=>env.getD n 0
 | .zero=>0
 | .one=>1
 | .add a b=>a.den env+b.den env
 | .mul a b=>a.den env*b.den env
 | .neg a=>- a.den env
def nsm(a:K):Nat->K
 | 0=>0
 | n+1=>nsm a n+a
def ism(a:K):Int->K
 | .ofNat n=>nsm a n
 | .negSucc n=>- nsm a (n+1)
theorem oR(a:K)(m:Nat):∀n,nsm a (m+n)=nsm a m+nsm a n
 | 0=>by rw[show nsm a 0=0 from rfl,add_zero];rfl
 | n+1=>by rw[<-Nat.add_assoc,show nsm a (m+n+1)=nsm a (m+n)+a from rfl,oR a m n,add_assoc];rfl
theorem Ap(a:K)(m n:Nat):ism a (Int.subNatNat m n)=nsm a m+- nsm a n:=by
 rcases Nat.lt_or_ge m n with h|h
 ·obtain⟨k,rfl⟩:∃k,n=m+k+1:=⟨n-m-1,byO⟩
  rw[Int.subNatNat_of_lt byO,show m+k+1-m=k+1 by omega];show-nsm a (k+1)=_;rw[Nat.add_assoc,oR a m (k+1),neg_add,<-add_assoc,add_neg,zero_add]
 ·obtain⟨k,rfl⟩:∃k,m=n+k:=⟨m-n,byO⟩
  rw[Int.subNatNat_of_le byO,show n+k-n=k by omega];show nsm a k=_;rw[oR,add_comm (nsm a n),add_assoc,add_neg,add_zero]
theorem vR(a:K)(m n:Int):ism a (m+n)=ism a m+ism a n:=by
 cases m with
 | ofNat m=>
  cases n with
  | ofNat n=>exact oR a m n
  | negSucc n=>exact Ap a m (n+1)
 | negSucc m=>
  cases n with
  | ofNat n=>rw[add_comm];exact Ap a n (m+1)
  | negSucc n=>
   show-nsm a (m+n+1+1)=- nsm a (m+1)+- nsm a (n+1);rw[<-neg_add,<-oR,show m+n+1+1=m+1+(n+1) by omega]
theorem lQ(a:K):ism a 0=0:=rfl
theorem vT(a:K):ism a 1=a:=zero_add a
theorem Ao(a:K)(n:Int):ism a (-n)=- ism a n:=by
 symm;apply iT
 rw[<-vR,show n+-n=0 by omega,lQ]
theorem vj(a b:K):∀n,nsm (a*b) n=nsm a n*b
 | 0=>by rw[show nsm (a*b) 0=0 from rfl,show nsm a 0=0 from rfl,zero_mul]
 | n+1=>by rw[show nsm (a*b) (n+1)=nsm (a*b) n+a*b from rfl,vj a b n,<-add_mul];rfl
theorem An(a b:K)(n:Int):ism (a*b) n=ism a n*b:=by
 cases n with
 | ofNat n=>exact vj a b n
 | negSucc n=>show-nsm (a*b) (n+1)=- nsm a (n+1)*b;rw[vj,neg_mul]
theorem lP(a:K)(m:Int):∀n:Nat,ism a (m*n)=nsm (ism a m) n
 | 0=>by rw[show m*((0:Nat):Int)=0 by simp,lQ];rfl
 | n+1=>by rw[show m*((n+1:Nat):Int)=m*n+m by rw[ap₀,Int.mul_add];simp,vR,lP a m n];rfl
theorem Ir(a:K)(m n:Int):ism a (m*n)=ism (ism a m) n:=by
 cases n with
 | ofNat n=>exact lP a m n
 | negSucc n=>
  rw[show m*Int.negSucc n=-(m*((n+1:Nat):Int)) by rw[<-Int.mul_neg];rfl,Ao,lP];rfl
theorem vS(a b:K)(m n:Int):ism (a*b) (m*n)=ism a m*ism b n:=by
 rw[Ir,An,mul_comm (ism a m),An,mul_comm]
def nR(env:List K):m7->K
 | []=>1
 | a::x=>env.getD a 0*nR env x
def kU(env:List K):Pol->K
 | []=>0
 | (c,m)::r=>ism (nR env m) c+kU env r
theorem BA:∀(x y:m7),C8 x y=.eq->x=y
 | [],[],_=>rfl
 | [],_::_,h=>by simp[C8]at h
 | _::_,[],h=>by simp[C8]at h
 | a::x,b::y,h=>by
  simp only[C8]at h;split at h
  ·cases h
  ·split at h
   ·cases h
   ·rw[BA x y h,show a=b by omega]
theorem xu(env:List K)(a:Nat):∀(y:m7),nR env (Ca a y)=env.getD a 0*nR env y
 | []=>rfl
 | b::y=>by
  rw[Ca];split
  ·rfl
  ·rw[show nR env (b::Ca a y)=env.getD b 0*nR env (Ca a y) from rfl,xu env a y,<-mul_assoc,mul_comm (env.getD b 0),mul_assoc];rfl
theorem xx(env:List K):∀(x y:m7),nR env (Fm x y)=nR env x*nR env y
 | [],y=>by rw[Fm,show nR env []=1 from rfl,one_mul]
 | a::x,y=>by rw[Fm,xu,xx env x y,<-mul_assoc];rfl
theorem pM(env:List K)(c:Int)(m:m7):∀p,kU env (qE c m p)=ism (nR env m) c+kU env p
 | []=>by
  rw[qE];split
  ·rename_i h;subst h;rw[lQ,zero_add]
  ·rfl
 | (d,n)::r=>by
  rw[qE];split
  ·split
   ·rename_i h;subst h;rw[lQ,zero_add]
   ·rfl
  ·rename_i h
   have:=BA _ _ h;subst this;rw[show kU env ((d,m)::r)=ism (nR env m) d+kU env r from rfl,<-add_assoc,<-vR];split
   ·rename_i h;rw[h,lQ,zero_add]
   ·rfl
  ·rw[show kU env ((d,n)::qE c m r)=ism (nR env n) d+kU env (qE c m r) from rfl,pM env c m r,<-add_assoc,add_comm (ism (nR env n) d),add_assoc];rfl
theorem sM(env:List K):∀p q,kU env (Cl p q)=kU env p+kU env q
 | [],q=>by rw[Cl,show kU env []=0 from rfl,zero_add]
 | (c,m)::p,q=>by rw[Cl,pM,sM env p q,<-add_assoc];rfl
theorem pO(env:List K)(c:Int)(m:m7):∀p,kU env (uQ c m p)=ism (nR env m) c*kU env p
 | []=>by rw[uQ,show kU env []=0 from rfl,mul_zero]
 | (d,n)::r=>by rw[uQ,pM,pO env c m r,xx,vS,<-mul_add];rfl
theorem yN(env:List K):∀p q,kU env (GS p q)=kU env p*kU env q
 | [],q=>by rw[GS,show kU env []=0 from rfl,zero_mul]
 | (c,m)::p,q=>by rw[GS,sM,pO,yN env p q,<-add_mul];rfl
theorem RE.norm_den(env:List K):∀e:RE,kU env e.norm=e.den env
 | .v n=>by
  show ism (env.getD n 0*1) 1+0=env.getD n 0;rw[add_zero,vT,mul_one]
 | .zero=>rfl
 | .one=>by
  show ism (1:K) 1+0=1;rw[add_zero,vT]
 | .add a b=>by rw[RE.norm,sM,RE.norm_den env a,RE.norm_den env b];rfl
 | .mul a b=>by rw[RE.norm,yN,RE.norm_den env a,RE.norm_den env b];rfl
 | .neg a=>by
  rw[RE.norm,pO,RE.norm_den env a];show ism (1:K) (-1)*_=- _;rw[Ao,vT,neg_mul,one_mul]
def uR:Pol->Pol->Bool
 | [],[]=>true
 | (c,m)::p,(d,n)::q=>c==d&&m==n&&uR p q
 | _,_=>false
theorem yO:∀p q,uR p q=true->p=q
 | [],[],_=>rfl
 | [],_::_,h=>by simp[uR]at h
 | _::_,[],h=>by simp[uR]at h
 | (c,m)::p,(d,n)::q,h=>by
  simp only[uR,ac₀,beq_iff_eq]at h;rw[h.1.1,h.1.2,yO p q h.2]
theorem bG(env:List K)(a b:RE)(h:uR a.norm b.norm=true):a.den env=b.den env:=by
 rw[<-RE.norm_den,<-RE.norm_den,yO _ _ h]
end
end Go.RS
namespace Go.RS
section
variable {K:Type}[Fd K]
def sm:Nat->(Nat->K)->K
 | 0,_=>0
 | n+1,f=>sm n f+f n
theorem br(n:Nat)(f:Nat->K):sm (n+1) f=sm n f+f n:=rfl
theorem Qn(f:Nat->K):sm 0 f=0:=rfl
theorem AL(f:Nat->K):sm 1 f=f 0:=zero_add _
theorem ay{f g:Nat->K}:∀{n:Nat},(∀i,i<n->f i=g i)->sm n f=sm n g
 | 0,_=>rfl
 | n+1,h=>by rw[br,br,ay (fun i hi=>h i byO),h n byO]
theorem dd{f:Nat->K}:∀{n:Nat},(∀i,i<n->f i=0)->sm n f=0
 | 0,_=>rfl
 | n+1,h=>by rw[br,dd (fun i hi=>h i byO),h n byO,add_zero]
theorem n6(f g:Nat->K):∀n,sm n (fun i=>f i+g i)=sm n f+sm n g
 | 0=>(add_zero 0).symm
 | n+1=>by
  rw[br,br,br,n6 f g n];exact(show(((sm n f)+(sm n g))+((f n)+(g n)))=(((sm n f)+(f n))+((sm n g)+(g n))) from bG [(sm n f),(sm n g),(f n),(g n)] (.add (.add (.v 0) (.v 1)) (.add (.v 2) (.v 3))) (.add (.add (.v 0) (.v 2)) (.add (.v 1) (.v 3))) rfl)
theorem k8(a:K)(f:Nat->K):∀n,a*sm n f=sm n (fun i=>a*f i)
 | 0=>mul_zero a
 | n+1=>by rw[br,br,mul_add,k8 a f n]
theorem o7(a:K)(f:Nat->K)(n:Nat):sm n f*a=sm n (fun i=>f i*a):=by
 rw[mul_comm,k8];exact ay fun i _=>mul_comm _ _
theorem wX(f:Nat->K):∀n,-sm n f=sm n (fun i=>- f i)
 | 0=>neg_zero
 | n+1=>by rw[br,br,neg_add,wX f n]
theorem jA(f:Nat->K):∀n,sm (n+1) f=f 0+sm n (fun i=>f (i+1))
 | 0=>by rw[br,Qn,Qn,zero_add,add_zero]
 | n+1=>by rw[br,jA f n,br,add_assoc]
theorem wY(f:Nat->K):∀n,sm n f=sm n (fun i=>f (n-1-i))
 | 0=>rfl
 | n+1=>by
  rw[jA (fun i=>f (n+1-1-i)),br,wY f n,add_comm];congr 1;exact ay fun i _=>by rw[show n+1-1-(i+1)=n-1-i by omega]
theorem so(f:Nat->K)(m:Nat):∀n,sm (m+n) f=sm m f+sm n (fun i=>f (m+i))
 | 0=>(add_zero _).symm
 | n+1=>by rw[<-Nat.add_assoc,br,so f m n,br,add_assoc]
theorem mU{f:Nat->K}{k:Nat}:∀{n:Nat},k<n->(∀i,i<n->i≠k->f i=0)->sm n f=f k
 | 0,h,_=>by omega
 | n+1,h,hz=>by
  rw[br];by_cases e:k=n
  ·subst e
   rw[dd (fun i hi=>hz i byO byO),zero_add]
  ·rw[mU byO (fun i hi=>hz i byO),hz n byO (fun h=>e h.symm),add_zero]
theorem gF{f:Nat->K}{m n:Nat}(h:m<=n)(hz:∀i,m<=i->i<n->f i=0):sm n f=sm m f:=by
 obtain⟨k,rfl⟩:∃k,n=m+k:=⟨n-m,byO⟩;rw[so,dd (n:=k) (fun i hi=>hz _ byO byO),add_zero]
theorem AN(f:Nat->Nat->K):∀n,sm (n+1) (fun k=>sm (k+1) (fun i=>f i (k-i)))=sm (n+1) (fun i=>sm (n-i+1) (fun j=>f i j))
 | 0=>rfl
 | n+1=>by
  rw[br,AN f n,br (n+1) (fun i=>sm (n+1-i+1) (fun j=>f i j)),Nat.sub_self,AL];have e:sm (n+1) (fun i=>sm (n+1-i+1) (fun j=>f i j))=sm (n+1) (fun i=>sm (n-i+1) (fun j=>f i j))+sm (n+1) (fun i=>f i (n+1-i)):=by
   rw[<-n6];refine ay fun i hi=>?_;rw[show n+1-i+1=(n-i+1)+1 by omega,br,show n-i+1=n+1-i by omega]
  rw[e,br (n+1) (fun i=>f i (n+1-i)),Nat.sub_self,add_assoc]
abbrev Ser(K:Type):=Nat->K
def cv(p q:Ser K):Ser K:=fun n=>sm (n+1) (fun i=>p i*q (n-i))
theorem dI(p q:Ser K):cv p q=cv q p:=by
 funext n;unfold cv;rw[wY];refine ay fun i hi=>?_;rw[show n+1-1-i=n-i by omega,show n-(n-i)=i by omega,mul_comm]
theorem dN(p q r:Ser K):cv (cv p q) r=cv p (cv q r):=by
 funext n;unfold cv;have h:=AN (fun i j=>p i*q j*r (n-i-j)) n;have e1:sm (n+1) (fun k=>sm (k+1) (fun i=>p i*q (k-i))*r (n-k))=sm (n+1) (fun k=>sm (k+1) (fun i=>p i*q (k-i)*r (n-i-(k-i)))):=by
  refine ay fun k hk=>?_;rw[o7];refine ay fun i hi=>?_;rw[show n-i-(k-i)=n-k by omega]
 rw[e1,h];refine ay fun i hi=>?_;rw[k8];refine ay fun j hj=>?_;rw[mul_assoc]
theorem rD(p q r:Ser K)(n:Nat):cv (fun i=>p i+q i) r n=cv p r n+cv q r n:=by
 unfold cv;rw[<-n6];exact ay fun i _=>add_mul _ _ _
theorem rE(p q r:Ser K)(n:Nat):cv r (fun i=>p i+q i) n=cv r p n+cv r q n:=by
 unfold cv;rw[<-n6];exact ay fun i _=>mul_add _ _ _
theorem oy(a:K)(p q:Ser K)(n:Nat):cv (fun i=>a*p i) q n=a*cv p q n:=by
 unfold cv;rw[k8];exact ay fun i _=>mul_assoc _ _ _
theorem EZ(p q:Ser K)(n:Nat):cv (fun i=>- p i) q n=- cv p q n:=by
 unfold cv;rw[wX];exact ay fun i _=>neg_mul _ _
theorem jb{p p' q q':Ser K}{n:Nat}(h:∀i,i<=n->p i=p' i)(k:∀i,i<=n->q i=q' i):cv p q n=cv p' q' n:=by
 unfold cv;refine ay fun i hi=>?_;rw[h i byO,k (n-i) byO]
theorem qX(p q:Ser K):cv p q 0=p 0*q 0:=AL _
def sh(m:Nat)(p:Ser K):Ser K:=fun n=>if m<=n then p (n-m) else 0
theorem mz{m n:Nat}(p:Ser K)(h:n<m):sh m p n=0:=by unfold sh;rw[if_neg byO]
theorem iz{m n:Nat}(p:Ser K)(h:m<=n):sh m p n=p (n-m):=by unfold sh;rw[if_pos h]
theorem E0(m:Nat)(p q:Ser K):cv (sh m p) q=sh m (cv p q):=by
 funext n;by_cases h:m<=n
 ·rw[iz _ h]
  unfold cv;obtain⟨k,rfl⟩:∃k,n=m+k:=⟨n-m,byO⟩;rw[show m+k+1=m+(k+1) by omega,so,dd (n:=m) (fun i hi=>by rw[mz _ hi,zero_mul]),zero_add,show m+k-m=k by omega];refine ay fun i hi=>?_;rw[iz _ byO,show m+i-m=i by omega,show m+k-(m+i)=k-i by omega]
 ·rw[mz _ byO]
  exact dd fun i hi=>by rw[mz _ byO,zero_mul]
def s1:Ser K:=fun n=>if n=0 then 1 else 0
theorem iZ(p:Ser K):cv s1 p=p:=by
 funext n;unfold cv;rw[mU (k:=0) byO (fun i _ h=>by unfold s1;rw[if_neg h,zero_mul])];unfold s1;rw[if_pos rfl,one_mul,Nat.sub_zero]
def dg(p:Ser K)(d:Nat):Prop:=∀i,d<i->p i=0
theorem IG{p:Ser K}{d e:Nat}(h:dg p d)(he:d<=e):dg p e:=fun i hi=>h i byO
theorem xO{p q:Ser K}{a b:Nat}(hp:dg p a)(hq:dg q b):dg (cv p q) (a+b):=by
 intro n hn;refine dd fun i hi=>?_;by_cases h:a<i
 ·rw[hp i h,zero_mul]
 ·rw[hq (n-i) byO,mul_zero]
def pv(p:Ser K)(d:Nat)(x:K):K:=sm (d+1) (fun i=>p i*pw x i)
theorem AB{p:Ser K}{d e:Nat}(h:dg p d)(he:d<=e)(x:K):pv p e x=pv p d x:=
 gF byO fun i h1 h2=>by rw[h i byO,zero_mul]
theorem lZ{p q:Ser K}{a b:Nat}(hp:dg p a)(hq:dg q b)(x:K):pv (cv p q) (a+b) x=pv p a x*pv q b x:=by
 unfold pv cv;have e1:sm (a+b+1) (fun n=>sm (n+1) (fun i=>p i*q (n-i))*pw x n)=sm (a+b+1) (fun n=>sm (n+1) (fun i=>p i*pw x i*(q (n-i)*pw x (n-i)))):=by
  refine ay fun n hn=>?_;rw[o7];refine ay fun i hi=>?_;obtain⟨k,rfl⟩:∃k,n=i+k:=⟨n-i,byO⟩;rw[show i+k-i=k by omega,eh];exact(show(((p i)*(q k))*((pw x i)*(pw x k)))=(((p i)*(pw x i))*((q k)*(pw x k))) from bG [(p i),(q k),(pw x i),(pw x k)] (.mul (.mul (.v 0) (.v 1)) (.mul (.v 2) (.v 3))) (.mul (.mul (.v 0) (.v 2)) (.mul (.v 1) (.v 3))) rfl)
 rw[e1,AN (fun i j=>p i*pw x i*(q j*pw x j)),o7,gF (m:=a+1) byO (fun i h1 h2=>by
  refine dd fun j _=>?_;rw[hp i byO,zero_mul,zero_mul])]
 refine ay fun i hi=>?_;rw[k8,gF (m:=b+1) byO (fun j h1 h2=>by rw[hq j byO,zero_mul,mul_zero])]
def lin(X:K):Ser K:=fun n=>if n=0 then 1 else if n=1 then-X else 0
theorem nG(X:K):dg (lin X) 1:=by
 intro i hi;unfold lin;rw[if_neg byO,if_neg byO]
theorem wI(X x:K):pv (lin X) 1 x=1-X*x:=by
 unfold pv lin;rw[br,AL,if_pos rfl,if_neg byO,if_pos rfl,gM,wM,mul_one,neg_mul];rfl
theorem nF(X:K)(p:Ser K)(n:Nat):cv (lin X) p (n+1)=p (n+1)-X*p n:=by
 unfold cv;rw[jA,jA,dd (n:=n) (fun i _=>by unfold lin;rw[if_neg byO,if_neg byO,zero_mul])];unfold lin;rw[if_pos rfl,if_neg byO,if_pos rfl,one_mul,add_zero,neg_mul];rfl
theorem nz(X:K)(p:Ser K):cv (lin X) p 0=p 0:=by
 rw[qX];unfold lin;rw[if_pos rfl,one_mul]
def dl(X:K)(p:Ser K):Ser K:=fun n=>sm (n+1) (fun i=>p i*pw X (n-i))
theorem IM(X:K)(p:Ser K):dl X p 0=p 0:=by
 unfold dl;rw[AL,gM,mul_one]
theorem IL(X:K)(p:Ser K)(n:Nat):dl X p (n+1)=X*dl X p n+p (n+1):=by
 unfold dl;rw[br,Nat.sub_self,gM,mul_one,k8];congr 1;refine ay fun i hi=>?_;rw[show n+1-i=(n-i)+1 by omega,fi];exact(show((p i)*((pw X (n-i))*X))=(X*((p i)*(pw X (n-i)))) from bG [(p i),(pw X (n-i)),X] (.mul (.v 0) (.mul (.v 1) (.v 2))) (.mul (.v 2) (.mul (.v 0) (.v 1))) rfl)
theorem Pp(X:K)(p:Ser K):cv (lin X) (dl X p)=p:=by
 funext n;cases n with
 | zero=>rw[nz,IM]
 | succ n=>rw[nF,IL];exact(show(((X*dl X p n)+(p (n+1)))-(X*dl X p n))=(p (n+1)) from bG [(X*dl X p n),(p (n+1))] (.add (.add (.v 0) (.v 1)) (.neg (.v 0))) (.v 1) rfl)
theorem mq{x X:K}(h:X*x=1)(n:Nat):pw X n*pw x n=1:=by rw[<-Ft,h,vy]
theorem Pu{X x:K}(h:X*x=1){p:Ser K}{d:Nat}(hp:dg p (d+1))(hr:pv p (d+1) x=0):dg (dl X p) d:=by
 have key:∀n,d+1<=n->dl X p n=pw X n*pv p (d+1) x:=by
  intro n hn;unfold dl pv;rw[gF (m:=d+1+1) byO (fun i h1 h2=>by rw[hp i byO,zero_mul]),k8];refine ay fun i hi=>?_;obtain⟨k,rfl⟩:∃k,n=k+i:=⟨n-i,byO⟩;rw[show k+i-i=k by omega,eh];have:=mq h i;have e:=(show(((pw X k)*(pw X i))*((p i)*(pw x i)))=(((p i)*(pw X k))*((pw X i)*(pw x i))) from bG [(pw X k),(pw X i),(p i),(pw x i)] (.mul (.mul (.v 0) (.v 1)) (.mul (.v 2) (.v 3))) (.mul (.mul (.v 2) (.v 0)) (.mul (.v 1) (.v 3))) rfl);rw[e,this,mul_one]
 intro i hi;rw[key i byO,hr,mul_zero]
def ag:List K->Ser K
 | []=>s1
 | X::l=>cv (lin X) (ag l)
theorem A6:dg (s1:Ser K) 0:=by
 intro i hi;unfold s1;rw[if_neg byO]
theorem eJ:∀l:List K,dg (ag l) l.length
 | []=>A6
 | X::l=>by
  have:=xO (nG X) (eJ l);rw[show 1+l.length=(X::l).length by simp;omega]at this;exact this
theorem mH:∀l:List K,ag l 0=1
 | []=>rfl
 | X::l=>by rw[ag,nz,mH l]
theorem Qk(x:K):pv s1 0 x=1:=by
 unfold pv;rw[AL,gM,mul_one];rfl
theorem oU(X:K)(l:List K)(x:K):pv (ag (X::l)) (l.length+1) x=(1-X*x)*pv (ag l) l.length x:=by
 have:=lZ (nG X) (eJ l) x;rw[wI,show 1+l.length=l.length+1 by omega]at this;exact this
theorem jS:∀{l:List K} {X x:K},X ∈ l->X*x=1->pv (ag l) l.length x=0
 | [],_,_,h,_=>by simp at h
 | Y::l,X,x,h,e=>by
  rw[ak₀,oU];rcases List.mem_cons.1 h with rfl|h
  ·rw[e,sub_self,zero_mul]
  ·rw[jS h e,mul_zero]
theorem sJ{X Y x:K}(e:X*x=1)(h:X≠Y):1-Y*x≠0:=by
 intro h2;apply h;have hx:x≠0:=by rintro rfl;rw[mul_zero]at e;exact j3 e.symm
 apply mul_left_cancel hx;rw[mul_comm x X,mul_comm x Y,e];exact sub_eq_zero h2
theorem fP:∀{l:List K} {X x:K},X ∉ l->X*x=1->pv (ag l) l.length x≠0
 | [],_,x,_,_=>by rw[ag,an₀,Qk];exact j3
 | Y::l,X,x,h,e=>by
  rw[ak₀,oU];refine mul_ne_zero (sJ e (fun e2=>h (by rw[e2];simp))) (fP (fun h2=>h (by simp[h2])) e)
theorem mS:∀(l:List K) (xs:List K) (p:Ser K) (d:Nat),l.length=xs.length->l.Nodup->(∀i (h:i<l.length) (h':i<xs.length),l[i]*xs[i]=1)->dg p (l.length+d)->(∀x ∈ xs,pv p (l.length+d) x=0)->∃q,dg q d/\p=cv (ag l) q
 | [],xs,p,d,_,_,_,hp,_=>⟨p,by simpa using hp,by rw[ag,iZ]⟩
 | X::l,[],p,d,hl,_,_,_,_=>by simp at hl
 | X::l,x::xs,p,d,hl,hn,hx,hp,hr=>by
  have e:X*x=1:=hx 0 (by simp) (by simp);have hlen:l.length=xs.length:=by simpa using hl
  have hd:(X::l).length+d=(l.length+d)+1:=by simp;omega
  rw[hd]at hp hr;have h1:=Pu e hp (hr x (by simp));have h2:p=cv (lin X) (dl X p):=(Pp X p).symm;have hnot:X ∉ l:=(List.nodup_cons.1 hn).1;obtain⟨q,hq,hq2⟩:=mS l xs (dl X p) d hlen (List.nodup_cons.1 hn).2 (fun i h h'=>hx (i+1) (by simpa using h) (by simpa using h')) h1 (by
   intro y hy;have hp0:=hr y (by simp[hy]);rw[h2]at hp0;have hv:=lZ (nG X) h1 y;rw[show 1+(l.length+d)=l.length+d+1 by omega,hp0,wI]at hv;obtain⟨i,hi,rfl⟩:=List.getElem_of_mem hy;have hi':i<l.length:=byO;have hy1:=hx (i+1) (by simpa using hi') (by simpa using hi);simp only[List.getElem_cons_succ]at hy1;rcases mul_eq_zero hv.symm with h0|h0
   ·exact absurd h0 (sJ hy1 (fun e2=>hnot (by rw[<-e2];exact List.getElem_mem _)))
   ·exact h0)
  exact⟨q,hq,by rw[ag,dN,<-hq2,<-h2]⟩
end
end Go.RS
namespace Go.RS
section
variable {K:Type}[Fd K]
structure Gen (s C:Ser K)(L n:Nat):Prop where
 one:C 0=1
 deg:dg C L
 gen:∀k,L<=k->k<n->cv C s k=0
theorem Gen.less{s C:Ser K}{L m n:Nat}(h:Gen s C L n)(hm:m<=n):Gen s C L m:=⟨h.one,h.deg,fun k h1 h2=>h.gen k h1 byO⟩
theorem Nc{s C D:Ser K}{L M n:Nat}(hC:Gen s C L n)(hd:cv C s n≠0)(hD:Gen s D M (n+1)):n+1<=L+M:=by
 apply Decidable.byContradiction;intro hc;apply hd;have e1:cv D (cv C s) n=cv C s n:=by
  show sm (n+1) (fun j=>D j*cv C s (n-j))=_;rw[mU (k:=0) byO (fun j h1 h2=>by
   by_cases h:M<j
   ·rw[hD.deg j h,zero_mul]
   ·rw[hC.gen (n-j) byO byO,mul_zero]),hD.one,one_mul,Nat.sub_zero]
 have e2:cv C (cv D s) n=0:=by
  refine dd fun i hi=>?_;by_cases h:L<i
  ·rw[hC.deg i h,zero_mul]
  ·rw[hD.gen (n-i) byO byO,mul_zero]
 rw[<-e1,<-dN,dI D C,dN,e2]
structure Reg (K:Type) where
 C:Ser K
 B:Ser K
 L:Nat
 m:Nat
 b:K
def Reg.init:Reg K:=⟨s1,s1,0,1,1⟩
def Reg.next(s:Ser K)(n:Nat)(r:Reg K):Reg K:=
 if cv r.C s n=0 then { r with m:=r.m+1 }
 else if 2*r.L<=n then⟨fun i=>r.C i-cv r.C s n*inv r.b*sh r.m r.B i,r.C,n+1-r.L,1,cv r.C s n⟩
 else { r with C:=fun i=>r.C i-cv r.C s n*inv r.b*sh r.m r.B i,m:=r.m+1 }
def Reg.run(s:Ser K):Nat->Reg K
 | 0=>Reg.init
 | n+1=>(Reg.run s n).next s n
structure RInv (s:Ser K)(n:Nat)(r:Reg K):Prop where
 gen:Gen s r.C r.L n
 le:r.L<=n
 min:∀D M,Gen s D M n->r.L<=M
 b:r.b≠0
 mp:0<r.m
 old:∃LB,dg r.B LB/\r.L+LB+r.m=n+1/\(∀t,LB<=t->t+r.m<n->cv r.B s t=0)/\(LB+r.m<=n->cv r.B s (n-r.m)=r.b)
theorem Cx(s:Ser K):RInv s 0 (Reg.init:Reg K):=by
 refine⟨⟨rfl,A6,fun k _ h=>byO⟩,Nat.le_refl _,fun _ _ _=>Nat.zero_le _,j3,Nat.zero_lt_one,0,A6,rfl,fun t _ h=>byO,fun h=>?_⟩;simp[Reg.init]at h
theorem Hw{s C B:Ser K}{a:K}{m k:Nat}:cv (fun i=>C i-a*sh m B i) s k=cv C s k-a*sh m (cv B s) k:=by
 have:(fun i=>C i-a*sh m B i)=(fun i=>C i+(fun j=>- (a*sh m B j)) i):=rfl;rw[this,rD,EZ,oy,E0];rfl
theorem Cy{s:Ser K}{n:Nat}{r:Reg K}(h:RInv s n r):RInv s (n+1) (r.next s n):=by
 obtain⟨LB,o1,o2,o3,o4⟩:=h.old;unfold Reg.next;split
 ·rename_i hd
  refine⟨⟨h.gen.one,h.gen.deg,fun k h1 h2=>?_⟩,by have:=h.le;simp only;omega,fun D M hD=>h.min D M (hD.less byO),h.b,Nat.succ_pos _,LB,o1,by simp only;omega,fun t h1 h2=>o3 t h1 (by simp only at h2;omega),fun h1=>?_⟩
  ·by_cases e:k=n
   ·rw[e];exact hd
   ·exact h.gen.gen k h1 byO
  ·simp only at h1 ⊢
   rw[<-o4 byO,show n+1-(r.m+1)=n-r.m by omega]
 ·rename_i hd
  have hone:(fun i=>r.C i-cv r.C s n*inv r.b*sh r.m r.B i) 0=1:=by
   have hm:=h.mp;show r.C 0-_*sh r.m r.B 0=1;rw[mz _ hm,mul_zero,h.gen.one];exact(show(1-0)=1 from bG [((1:K))] (.add .one (.neg .zero)) .one rfl)
  have hdeg:∀L',r.L<=L'->n+1-r.L<=L'->dg (fun i=>r.C i-cv r.C s n*inv r.b*sh r.m r.B i) L':=by
   intro L' h1 h2 i hi;show r.C i-_*sh r.m r.B i=0;rw[h.gen.deg i byO,iz _ byO,o1 (i-r.m) byO,mul_zero];exact(show(0-0)=0 from bG [((1:K))] (.add .zero (.neg .zero)) .zero rfl)
  have hgen:∀L',r.L<=L'->n+1-r.L<=L'->∀k,L'<=k->k<n+1->cv (fun i=>r.C i-cv r.C s n*inv r.b*sh r.m r.B i) s k=0:=by
   intro L' h1 h2 k h3 h4;rw[Hw,iz _ byO];by_cases e:k=n
   ·subst e
    rw[o4 byO,mul_assoc,inv_mul h.b,mul_one,sub_self]
   ·rw[h.gen.gen k byO byO,o3 (k-r.m) byO byO,mul_zero]
    exact(show(0-0)=0 from bG [((1:K))] (.add .zero (.neg .zero)) .zero rfl)
  have hmin:∀D M,Gen s D M (n+1)->r.L<=M/\n+1-r.L<=M:=fun D M hD=>⟨h.min D M (hD.less byO),by have:=Nc h.gen hd hD;omega⟩;by_cases hl:2*r.L<=n
  ·rw[if_pos hl]
   refine⟨⟨hone,hdeg _ (by simp only;omega) (Nat.le_refl _),hgen _ (by simp only;omega) (Nat.le_refl _)⟩,by simp only;omega,fun D M hD=>(hmin D M hD).2,hd,Nat.zero_lt_one,r.L,h.gen.deg,by simp only;omega,fun t h1 h2=>h.gen.gen t h1 (by simp only at h2;omega),fun _=>?_⟩;simp only;rw[show n+1-1=n by omega]
  ·rw[if_neg hl]
   have hl2:n+1-r.L<=r.L:=byO;refine⟨⟨hone,hdeg _ (Nat.le_refl _) hl2,hgen _ (Nat.le_refl _) hl2⟩,by have:=h.le;simp only;omega,fun D M hD=>(hmin D M hD).1,h.b,Nat.succ_pos _,LB,o1,by simp only;omega,fun t h1 h2=>o3 t h1 (by simp only at h2;omega),fun h1=>?_⟩;simp only at h1 ⊢;rw[<-o4 byO,show n+1-(r.m+1)=n-r.m by omega]
theorem l7(s:Ser K):∀n,RInv s n (Reg.run s n)
 | 0=>Cx s
 | n+1=>Cy (l7 s n)
theorem uW{s t:Ser K}:∀{n:Nat},(∀k,k<n->s k=t k)->Reg.run s n=Reg.run t n
 | 0,_=>rfl
 | n+1,h=>by
  have e:=uW (fun k hk=>h k byO:∀k,k<n->s k=t k);have e2:∀C:Ser K,cv C s n=cv C t n:=fun C=>jb (fun _ _=>rfl) (fun i hi=>h i byO);simp only[Reg.run,e,Reg.next,e2]
def geo(X:K):Ser K:=fun n=>pw X n
theorem M8(X:K):cv (lin X) (geo X)=s1:=by
 funext n;cases n with
 | zero=>rw[nz];rfl
 | succ n=>
  rw[nF];show pw X n*X-X*pw X n=0;rw[mul_comm X,sub_self]
def gs:List (K×K)->Ser K
 | []=>fun _=>0
 | (y,X)::l=>fun n=>y*geo X n+gs l n
def xs:List (K×K)->List K:=List.map Prod.snd
def om:List (K×K)->Ser K
 | []=>fun _=>0
 | (y,X)::l=>fun n=>y*ag (xs l) n+cv (lin X) (om l) n
theorem oA(p:Ser K):cv p (fun _=>0)=fun _=>0:=by
 funext n;exact dd fun i _=>mul_zero _
theorem th(a:K)(p q:Ser K)(n:Nat):cv p (fun i=>a*q i) n=a*cv p q n:=by
 rw[dI,oy,dI]
theorem xI:∀l:List (K×K),cv (ag (xs l)) (gs l)=om l
 | []=>oA _
 | (y,X)::l=>by
  funext n;show cv (cv (lin X) (ag (xs l))) (fun n=>y*geo X n+gs l n) n=_;rw[rE,th,dI (lin X),dN,M8,dI _ s1,iZ,dI (ag (xs l)),dN,xI l];rfl
theorem fR(l:List (K×K)):(xs l).length=l.length:=by simp[xs]
theorem mj:∀l:List (K×K),∀i,l.length<=i->om l i=0
 | [],_,_=>rfl
 | (y,X)::l,i,h=>by
  have h:l.length+1<=i:=by simpa using h
  have h2:=eJ (xs l);rw[fR]at h2;show y*ag (xs l) i+cv (lin X) (om l) i=0;rw[h2 i byO,mul_zero,zero_add];cases i with
  | zero=>omega
  | succ i=>rw[nF,mj l (i+1) byO,mj l i byO,mul_zero];exact(show(0-0)=0 from bG [((1:K))] (.add .zero (.neg .zero)) .zero rfl)
theorem AA(p q:Ser K)(d:Nat)(x:K):pv (fun i=>p i+q i) d x=pv p d x+pv q d x:=by
 unfold pv;rw[<-n6];exact ay fun i _=>add_mul _ _ _
theorem wJ(a:K)(p:Ser K)(d:Nat)(x:K):pv (fun i=>a*p i) d x=a*pv p d x:=by
 unfold pv;rw[k8];exact ay fun i _=>mul_assoc _ _ _
theorem GU:∀(l:List (K×K)) (j:Nat) (h:j<l.length) (x:K),(l[j]).2*x=1->pv (om l) l.length x=(l[j]).1*pv (ag ((xs l).eraseIdx j)) (l.length-1) x
 | [],j,h,_,_=>by simp at h
 | (y,X)::l,0,h,x,e=>by
  have e:X*x=1:=e;show pv (fun n=>y*ag (xs l) n+cv (lin X) (om l) n) (l.length+1) x=y*pv (ag (xs l)) (l.length+1-1) x;have h1:dg (om l) l.length:=fun i hi=>mj l i byO;have h2:=lZ (nG X) h1 x;have h3:=eJ (xs l);rw[fR]at h3;rw[show 1+l.length=l.length+1 by omega,wI,e,sub_self,zero_mul]at h2;rw[AA,wJ,h2,add_zero,Nat.add_sub_cancel,AB h3 byO]
 | (y,X)::l,j+1,h,x,e=>by
  have hj:j<l.length:=by simpa using h
  have e:(l[j]).2*x=1:=e;show pv (fun n=>y*ag (xs l) n+cv (lin X) (om l) n) (l.length+1) x=(l[j]).1*pv (cv (lin X) (ag ((xs l).eraseIdx j))) (l.length+1-1) x;have h1:dg (om l) l.length:=fun i hi=>mj l i byO;have h2:=lZ (nG X) h1 x;have h3:=eJ (xs l);have h4:=eJ ((xs l).eraseIdx j);have h5:((xs l).eraseIdx j).length=l.length-1:=by rw[List.length_eraseIdx_of_lt (by rw[fR];exact hj),fR]
  rw[h5]at h4;rw[fR]at h3;have h6:=lZ (nG X) h4 x;have hz:pv (ag (xs l)) l.length x=0:=by
   have:=jS (l:=xs l) (X:=(l[j]).2) (x:=x) (List.mem_map.2 ⟨l[j],List.getElem_mem _,rfl⟩) e;rwa [fR]at this
  rw[show 1+(l.length-1)=l.length by omega]at h6;rw[AA,wJ,AB h3 byO,hz,mul_zero,zero_add,show l.length+1=1+l.length by omega,h2,GU l j hj x e,show 1+l.length-1=l.length by omega,h6];exact(show((pv (lin X) 1 x)*(((l[j]).1)*(pv (ag ((xs l).eraseIdx j)) (l.length-1) x)))=(((l[j]).1)*((pv (lin X) 1 x)*(pv (ag ((xs l).eraseIdx j)) (l.length-1) x))) from bG [(pv (lin X) 1 x),((l[j]).1),(pv (ag ((xs l).eraseIdx j)) (l.length-1) x)] (.mul (.v 0) (.mul (.v 1) (.v 2))) (.mul (.v 1) (.mul (.v 0) (.v 2))) rfl)
theorem sA:∀l:List K,(∀X ∈ l,X≠0)->ag l l.length≠0
 | [],_=>j3
 | X::l,h=>by
  show cv (lin X) (ag l) (l.length+1)≠0;rw[nF,eJ l _ byO];have h1:=sA l (fun Y hY=>h Y (by simp[hY]));have h2:=mul_ne_zero (h X (by simp)) h1;intro h3;apply neg_ne_zero h2;rw[<-h3];exact(show(-(X*ag l l.length))=(0-(X*ag l l.length)) from bG [(X*ag l l.length)] (.neg (.v 0)) (.add .zero (.neg (.v 0))) rfl)
theorem v7{l:List K}(hn:l.Nodup){j:Nat}(hj:j<l.length):l[j] ∉ l.eraseIdx j:=by
 intro hm;obtain⟨i,hi,he⟩:=List.getElem_of_mem hm;rw[List.getElem_eraseIdx]at he;have hl:=List.length_eraseIdx_of_lt hj;split at he
 ·have:=(List.getElem_inj hn).1 he;omega
 ·have:=(List.getElem_inj hn).1 he;omega
theorem Bs{s C:Ser K}{L N:Nat}(hg:Gen s C L N)(hmin:∀D M,Gen s D M N->L<=M)(l:List (K×K))(hy:∀p ∈ l,p.1≠0)(hX:∀p ∈ l,p.2≠0)(hn:(xs l).Nodup)(hs:∀k,k<N->s k=gs l k)(ht:2*l.length<=N):C=ag (xs l)/\L=l.length:=by
 have hcv:∀(D:Ser K) k,k<N->cv D s k=cv D (gs l) k:=fun D k hk=>jb (fun _ _=>rfl) (fun i hi=>hs i byO);have hdl:=eJ (xs l);rw[fR]at hdl;have hL:L<=l.length:=hmin (ag (xs l)) l.length ⟨mH _,hdl,fun k h1 h2=>by rw[hcv _ k h2,xI,mj l k h1]⟩;have hA:∀k,L<=k->k<N->cv C (gs l) k=0:=fun k h1 h2=>by rw[<-hcv _ k h2];exact hg.gen k h1 h2
 have hP:cv C (om l)=cv (ag (xs l)) (fun k=>if k<L then cv C (gs l) k else 0):=by
  funext n;by_cases hnN:n<N
  ·rw[<-xI,<-dN,dI C,dN]
   refine jb (fun _ _=>rfl) (fun i hi=>?_);split
   ·rfl
   ·exact hA i byO byO
  ·rw[show cv C (om l) n=0 from dd fun i hi=>by
    by_cases h:L<i
    ·rw[hg.deg i h,zero_mul]
    ·rw[mj l (n-i) byO,mul_zero]]
   refine(dd fun i hi=>?_).symm;by_cases h:l.length<i
   ·rw[hdl i h,zero_mul]
   ·by_cases h2:n-i<L
    ·have:n-i+i=n:=byO
     exact absurd hnN byO
    ·show ag (xs l) i*(if n-i<L then cv C (gs l) (n-i) else 0)=0
     rw[if_neg h2,mul_zero]
 have hroot:∀j (h:j<l.length),pv C L (inv (l[j]).2)=0:=by
  intro j h;have hXj:=hX l[j] (List.getElem_mem _);have e:(l[j]).2*inv (l[j]).2=1:=eC hXj;have h1:dg (om l) l.length:=fun i hi=>mj l i byO;have h2:=lZ hg.deg h1 (inv (l[j]).2);have h3:dg (fun k=>if k<L then cv C (gs l) k else 0) L:=fun i hi=>if_neg byO;have h4:=lZ hdl h3 (inv (l[j]).2);have hz:pv (ag (xs l)) l.length (inv (l[j]).2)=0:=by
   have:=jS (l:=xs l) (X:=(l[j]).2) (List.mem_map.2 ⟨l[j],List.getElem_mem _,rfl⟩) e;rwa [fR]at this
  rw[hz,zero_mul,<-hP,show l.length+L=L+l.length by omega,h2]at h4;rcases mul_eq_zero h4 with h5|h5
  ·exact h5
  ·rw[GU l j h _ e]at h5
   rcases mul_eq_zero h5 with h6|h6
   ·exact absurd h6 (hy _ (List.getElem_mem _))
   ·exfalso
    have hj':j<(xs l).length:=by rw[fR];exact h
    have hnm:=v7 hn hj';have h7:=fP (X:=(l[j]).2) (l:=(xs l).eraseIdx j) (by simpa[xs]using hnm) e;rw[List.length_eraseIdx_of_lt hj',fR]at h7;exact h7 h6
 have hdeg:dg C ((xs l).length+0):=IG hg.deg (by rw[fR];omega);obtain⟨q,hq,hCq⟩:=mS (xs l) ((xs l).map inv) C 0 (by simp) hn (fun i h h'=>by
   rw[List.getElem_map];exact eC (by
    obtain⟨p,hp,he⟩:=List.mem_map.1 (List.getElem_mem h);rw[<-he];exact hX p hp)) hdeg (fun x hx=>by
   obtain⟨X,hXm,rfl⟩:=List.mem_map.1 hx;obtain⟨p,hp,rfl⟩:=List.mem_map.1 hXm;obtain⟨j,hj,rfl⟩:=List.getElem_of_mem hp;rw[AB hg.deg (by rw[fR];omega)];exact hroot j hj)
 have hq0:q 0=1:=by
  have:=hg.one;rwa [hCq,qX,mH,one_mul]at this
 have hqs:q=s1:=by
  funext i;unfold s1;split
  ·rename_i h;rw[h];exact hq0
  ·exact hq i byO
 have hC:C=ag (xs l):=by rw[hCq,hqs,dI,iZ]
 refine⟨hC,?_⟩;have htop:=sA (xs l) (fun X hXm=>by
  obtain⟨p,hp,rfl⟩:=List.mem_map.1 hXm;exact hX p hp)
 rw[fR,<-hC]at htop;by_cases h:L<l.length
 ·exact absurd (hg.deg _ h) htop
 ·omega
end
end Go.RS
namespace Go.RS
theorem mK:∀(q:Nat) (l:List Nat),l.Nodup->(∀x ∈ l,x<q)->l.length<=q
 | 0,l,_,h=>by
  cases l with
  | nil=>simp
  | cons a l=>exact absurd (h a (by simp)) byO
 | q+1,l,hn,h=>by
  by_cases hm:q ∈ l
  ·have h1:=List.length_erase_of_mem hm
   have h2:=mK q (l.erase q) (hn.erase q) (fun x hx=>by
    have h3:=h x (List.mem_of_mem_erase hx);have h4:x≠q:=(hn.mem_erase_iff.1 hx).1;omega)
   have h3:=List.length_pos_of_mem hm;omega
  ·have:=mK q l hn (fun x hx=>by
    have h3:=h x hx;have h4:x≠q:=fun e=>hm (e▸hx);omega)
   omega
theorem gq{α:Type}{f:Nat->α}{n:Nat}(h:∀i j,i<n->j<n->f i=f j->i=j):((List.range n).map f).Nodup:=by
 rw[List.nodup_iff_pairwise_ne]at *;rw[List.pairwise_map];refine List.Pairwise.imp_of_mem ?_ (List.nodup_iff_pairwise_ne.1 List.nodup_range);intro a b ha hb hne e;exact hne (h a b (by simpa using ha) (by simpa using hb) e)
theorem qJ{q:Nat}{f:Nat->Nat}(h1:∀i,i<q->f i<q)(h2:∀i j,i<q->j<q->f i=f j->i=j){y:Nat}(hy:y<q):∃x,x<q/\f x=y:=by
 apply Decidable.byContradiction;intro hc;have hnot:y ∉ (List.range q).map f:=by
  intro hm;obtain⟨x,hx,e⟩:=List.mem_map.1 hm;exact hc ⟨x,by simpa using hx,e⟩
 have:=mK q (y::(List.range q).map f) (List.nodup_cons.2 ⟨hnot,gq h2⟩) (by
  intro x hx;rcases List.mem_cons.1 hx with rfl|hx
  ·exact hy
  ·obtain⟨i,hi,rfl⟩:=List.mem_map.1 hx
   exact h1 i (by simpa using hi))
 simp at this;omega
theorem least{P:Nat->Prop}:∀n,P n->∃m,m<=n/\P m/\∀k,k<m->¬ P k:=by
 intro n
 induction n using Nat.strongRecOn with
 | _ n ih=>
  intro h;by_cases hc:∃k,k<n/\P k
  ·obtain⟨k,h1,h2⟩:=hc
   obtain⟨m,a,b,c⟩:=ih k h1 h2;exact⟨m,byO,b,c⟩
  ·exact⟨n,Nat.le_refl _,h,fun k hk hp=>hc ⟨k,hk,hp⟩⟩
def Pr(p:Nat):Prop:=2<=p/\∀d,2<=d->d<p->¬ d ∣ p
theorem zw{p m:Nat}(hp:Pr p)(h:¬ p ∣ m):Nat.gcd p m=1:=by
 have hd:=Nat.gcd_dvd_left p m;have hpos:0<Nat.gcd p m:=Nat.gcd_pos_of_pos_left m (by have:=hp.1;omega);have hle:=Nat.le_of_dvd (by have:=hp.1;omega) hd;apply Decidable.byContradiction;intro hc;by_cases he:Nat.gcd p m=p
 ·apply h
  rw[<-he];exact Nat.gcd_dvd_right p m
 ·exact hp.2 _ byO byO hd
section
variable {K:Type}[Fd K]
def Ord(a:K)(n:Nat):Prop:=0<n/\pw a n=1/\∀m,0<m->m<n->pw a m≠1
theorem wL{a:K}{n:Nat}(h:pw a n=1)(k:Nat):pw a (k%n)=pw a k:=by
 have e:k=n*(k/n)+k%n:=(Nat.div_add_mod k n).symm;have:pw a k=pw a (n*(k/n))*pw a (k%n):=by rw[<-eh,<-e]
 rw[this,nX,h,vy,one_mul]
theorem BO{a:K}{n k:Nat}(h:Ord a n)(hk:pw a k=1):n ∣ k:=by
 obtain⟨h1,h2,h3⟩:=h;rw[Nat.dvd_iff_mod_eq_zero];apply Decidable.byContradiction;intro hc;exact h3 (k%n) byO (Nat.mod_lt k h1) (by rw[wL h2,hk])
structure Num (K:Type)[Fd K] where
 q:Nat
 val:K->Nat
 lt:∀x,val x<q
 inj:∀x y,val x=val y->x=y
 sur:∀i,i<q->∃x,val x=i
 v0:val 0=0
variable (N:Num K)
theorem Num.elems:∃l:List K,l.Nodup/\l.length=N.q-1/\(∀x,x ∈ l↔x≠0):=by
 have hf:∃f:Nat->K,∀i,i<N.q->N.val (f i)=i:=
  ⟨fun i=>if h:i<N.q then(N.sur i h).choose else 0,fun i h=>by simp only[h,dif_pos];exact(N.sur i h).choose_spec⟩
 obtain⟨f,hf⟩:=hf;refine⟨(List.range (N.q-1)).map (fun i=>f (i+1)),gq ?_,by simp,fun x=>?_⟩
 ·intro i j hi hj e
  have h1:=hf (i+1) byO;have h2:=hf (j+1) byO;rw[e,h2]at h1;omega
 ·constructor
  ·intro hm e
   obtain⟨i,hi,e2⟩:=List.mem_map.1 hm;have hi0:i<N.q-1:=by simpa using hi
   have h1:=hf (i+1) byO;have e2:f (i+1)=x:=e2;rw[e2,e,N.v0]at h1;omega
  ·intro h
   have hv:N.val x≠0:=fun e=>h (N.inj x 0 (by rw[e,N.v0]));have hl:=N.lt x;refine List.mem_map.2 ⟨N.val x-1,by simp;omega,?_⟩;show f (N.val x-1+1)=x;apply N.inj;rw[hf _ byO];omega
theorem Num.ord(a:K)(ha:a≠0):∃n,Ord a n/\n<=N.q-1:=by
 have hex:∃n,0<n/\pw a n=1/\n<=N.q-1:=by
  apply Classical.byContradiction;intro hc;obtain⟨l,_,hl,hmem⟩:=N.elems;have hinj:∀i j,i<N.q->j<N.q->N.val (pw a i)=N.val (pw a j)->i=j:=by
   have key:∀i k,i+k<N.q->pw a i=pw a (i+k)->k=0:=by
    intro i k hk e;rw[eh]at e;have e2:pw a k=1:=by
     symm
     apply mul_left_cancel (cJ ha i);rw[mul_one];exact e
    apply Decidable.byContradiction;intro hk0;exact hc ⟨k,byO,e2,byO⟩
   intro i j hi hj e;have e:=N.inj _ _ e;rcases Nat.le_total i j with h|h
   ·have:=key i (j-i) byO (by rw[show i+(j-i)=j by omega];exact e);omega
   ·have:=key j (i-j) byO (by rw[show j+(i-j)=i by omega];exact e.symm);omega
  have hlen:=mK N.q (0::(List.range N.q).map (fun i=>N.val (pw a i))) (List.nodup_cons.2 ⟨by
   intro hm;obtain⟨i,_,e⟩:=List.mem_map.1 hm;exact cJ ha i (N.inj _ _ (by rw[N.v0];exact e)),gq hinj⟩) (by
   intro x hx;rcases List.mem_cons.1 hx with rfl|hx
   ·exact Nat.lt_of_le_of_lt (Nat.zero_le _) (N.lt 0)
   ·obtain⟨i,_,rfl⟩:=List.mem_map.1 hx
    exact N.lt _)
  simp at hlen;omega
 obtain⟨n,h1,h2,h3⟩:=hex;obtain⟨m,hm1,⟨hm2,hm3⟩,hm4⟩:=least (P:=fun k=>0<k/\pw a k=1) n ⟨h1,h2⟩;exact⟨m,⟨hm2,hm3,fun k hk hlt e=>hm4 k hlt ⟨hk,e⟩⟩,byO⟩
end
end Go.RS
namespace Go.RS
instance boolFd:Fd Bool where
 add:=xor
 mul:=and
 neg:=id
 zero:=false
 one:=true
 inv:=id
 add_assoc':=by decide
 add_comm':=by decide
 add_zero':=by decide
 add_neg':=by decide
 mul_assoc':=by decide
 mul_comm':=by decide
 mul_one':=by decide
 mul_add':=by decide
 mul_inv':=by decide
 one_ne':=by decide
 dec:=inferInstance
def bt(a:Nat):Ser Bool:=fun i=>a.testBit i
theorem qo{a b:Nat}(h:bt a=bt b):a=b:=Nat.eq_of_testBit_eq fun i=>congrFun h i
theorem Dn(a b:Nat):bt (a ^^^ b)=fun i=>bt a i+bt b i:=by
 funext i;exact Nat.testBit_xor a b i
theorem mh{a d:Nat}(h:a<2^(d+1)):dg (bt a) d:=fun i hi=>Nat.testBit_lt_two_pow (bd₀ h (Nat.pow_le_pow_right byO byO))
theorem Fc{a d:Nat}(h:dg (bt a) d):a<2^(d+1):=Nat.lt_pow_two_of_testBit a fun i hi=>h i byO
def ofB:Nat->(Nat->Bool)->Nat
 | 0,_=>0
 | n+1,f=>ofB n f ||| (if f n=true then 2^n else 0)
theorem BM(f:Nat->Bool)(i:Nat):∀n,(ofB n f).testBit i=(decide (i<n)&&f i)
 | 0=>by simp[ofB]
 | n+1=>by
  rw[ofB,Nat.testBit_or,BM f i n];by_cases h:i=n
  ·subst h
   cases hf:f i<;>simp
  ·have h1:decide (i<n+1)=decide (i<n):=by rw[Bool.eq_iff_iff];simp;omega
   rw[h1];split
   ·rw[Nat.testBit_two_pow]
    have:decide (n=i)=false:=by simp;omega
    rw[this,Bool.or_false]
   ·simp
def cl(a b:Nat):Nat:=ofB (a+b+1) (cv (bt a) (bt b))
theorem Fe(a:Nat):a<2^(a+1):=bd₀ Nat.lt_two_pow_self (Nat.pow_le_pow_right byO byO)
theorem j7(a b:Nat):bt (cl a b)=cv (bt a) (bt b):=by
 funext i;show(ofB (a+b+1) (cv (bt a) (bt b))).testBit i=_;rw[BM];by_cases h:i<a+b+1
 ·simp[h]
 ·rw[xO (mh (Fe a)) (mh (Fe b)) i byO]
  simp[h];rfl
theorem fD(a b:Nat):cl a b=cl b a:=qo (by rw[j7,j7,dI])
theorem j9(a b c:Nat):cl (cl a b) c=cl a (cl b c):=qo (by rw[j7,j7,j7,j7,dN])
theorem kC(a b c:Nat):cl a (b ^^^ c)=cl a b ^^^ cl a c:=qo (by
 rw[j7,Dn,Dn,j7,j7];funext n;exact rE _ _ _ _)
theorem HW(a b c:Nat):cl (a ^^^ b) c=cl a c ^^^ cl b c:=by rw[fD,kC,fD c a,fD c b]
theorem MZ(k:Nat):bt (2^k)=sh k s1:=by
 funext i;show(2^k).testBit i=_;rw[Nat.testBit_two_pow];unfold sh s1;by_cases h:k=i
 ·subst h;simp;rfl
 ·by_cases h2:k<=i
  ·rw[if_pos h2,if_neg byO];simp[h];rfl
  ·rw[if_neg h2];simp[h];rfl
theorem iX(a k:Nat):cl a (2^k)=a <<< k:=qo (by
 rw[fD,j7,MZ,E0,iZ];funext i;show sh k (bt a) i=(a <<< k).testBit i;rw[Nat.testBit_shiftLeft];by_cases h:k<=i
 ·rw[iz _ h];simp[h,bt]
 ·rw[mz _ byO];simp[h];rfl)
theorem uv(a:Nat):cl a 1=a:=by have:=iX a 0;simpa using this
theorem Rb:bt 0=fun _=>0:=by funext i;exact Nat.zero_testBit i
theorem gJ(a:Nat):cl a 0=0:=qo (by rw[j7,Rb,cv_null'])
where cv_null' {p:Ser Bool}:cv p (fun _=>0)=fun _=>0:=by funext n;exact dd fun i _=>mul_zero _
theorem j0{n:Nat}(h:n≠0):2^n.log2<=n:=Nat.log2_self_le h
theorem dR(n:Nat):n<2^(n.log2+1):=Nat.lt_log2_self
theorem kM{n:Nat}(h:n≠0):n.testBit n.log2=true:=by
 apply Decidable.byContradiction;intro hc;have hb:n.testBit n.log2=false:=by simpa using hc
 have:n<2^n.log2:=Nat.lt_pow_two_of_testBit n fun i hi=>by
  by_cases e:i=n.log2
  ·rw[e];exact hb
  ·exact Nat.testBit_lt_two_pow (bd₀ (dR n) (Nat.pow_le_pow_right byO byO))
 have:=j0 h;omega
theorem sB{n d:Nat}(h1:2^d<=n)(h2:n<2^(d+1)):n.log2=d:=by
 have hn:n≠0:=by have:0<2^d:=Nat.pow_pos byO;omega
 have h3:=j0 hn;have h4:=dR n;have a:n.log2<d+1:=(Nat.pow_lt_pow_iff_right byO).1 (Nat.lt_of_le_of_lt h3 h2);have b:d<n.log2+1:=(Nat.pow_lt_pow_iff_right byO).1 (Nat.lt_of_le_of_lt h1 h4);omega
theorem yt{a b:Nat}(ha:a≠0)(hb:b≠0):(cl a b).testBit (a.log2+b.log2)=true:=by
 have:=congrFun (j7 a b) (a.log2+b.log2);show bt (cl a b) (a.log2+b.log2)=true;rw[this];unfold cv;rw[mU (k:=a.log2) byO (fun i hi hne=>by
  by_cases h:a.log2<i
  ·rw[mh (dR a) i h,zero_mul]
  ·rw[mh (dR b) _ byO,mul_zero])]
 rw[show a.log2+b.log2-a.log2=b.log2 by omega];show(a.testBit a.log2&&b.testBit b.log2)=true;rw[kM ha,kM hb];rfl
theorem Pk{a b:Nat}:cl a b<2^(a.log2+b.log2+1):=Fc (by
 rw[j7];exact xO (mh (dR a)) (mh (dR b)))
theorem rA{a b:Nat}(ha:a≠0)(hb:b≠0):cl a b≠0:=by
 intro h;have:=yt ha hb;rw[h,Nat.zero_testBit]at this;cases this
theorem yr{a b:Nat}(ha:a≠0)(hb:b≠0):(cl a b).log2=a.log2+b.log2:=
 sB (Nat.ge_two_pow_of_testBit (yt ha hb)) Pk
theorem n9{a b c:Nat}(h:a ^^^ b=c):a=c ^^^ b:=by rw[<-h,Nat.xor_assoc,Nat.xor_self,Nat.xor_zero]
theorem EC(q:Nat)(hq:q≠0):∀p,∃m r,r<2^q.log2/\p=cl q m ^^^ r:=by
 intro p
 induction p using Nat.strongRecOn with
 | _ p ih=>
  by_cases h:p<2^q.log2
  ·exact⟨0,p,h,by rw[gJ,Nat.zero_xor]⟩
  ·have hp:p≠0:=by have:0<2^q.log2:=Nat.pow_pos byO;omega
   have hle:q.log2<=p.log2:=by
    have h1:=dR p;have:2^q.log2<2^(p.log2+1):=byO;have:=(Nat.pow_lt_pow_iff_right (by omega:1<2)).1 this;omega
   have hs:(q <<< (p.log2-q.log2)).log2=p.log2:=by
    rw[<-iX,yr hq (Nat.pos_iff_ne_zero.1 (Nat.pow_pos byO)),sB (Nat.le_refl _) (Nat.pow_lt_pow_right byO byO)];omega
   have hs0:q <<< (p.log2-q.log2)≠0:=by rw[<-iX];exact rA hq (Nat.pos_iff_ne_zero.1 (Nat.pow_pos byO))
   have hlt:p ^^^ q <<< (p.log2-q.log2)<2^p.log2:=Nat.lt_pow_two_of_testBit _ fun i hi=>by
    rw[Nat.testBit_xor];by_cases e:i=p.log2
    ·have:=kM hs0
     rw[hs]at this;rw[e,kM hp,this];rfl
    ·have h1:=mh (dR p) i byO
     have h2:=mh (dR (q <<< (p.log2-q.log2))) i byO;have h1:p.testBit i=false:=h1;have h2:(q <<< (p.log2-q.log2)).testBit i=false:=h2;rw[h1,h2];rfl
   obtain⟨m,r,hr,he⟩:=ih _ (bd₀ hlt (j0 hp));refine⟨m ^^^ 2^(p.log2-q.log2),r,hr,?_⟩;rw[kC,iX]
   conv=>lhs;rw[n9 he]
   rw[Nat.xor_assoc,Nat.xor_comm r,<-Nat.xor_assoc]
theorem wx{q m:Nat}(hq:q≠0)(h:cl q m<2^q.log2):m=0:=by
 apply Decidable.byContradiction;intro hm;have:=Nat.ge_two_pow_of_testBit (yt hq hm);have h2:2^q.log2<=2^(q.log2+m.log2):=Nat.pow_le_pow_right byO byO;omega
theorem G0{q m m' r r':Nat}(hq:q≠0)(hr:r<2^q.log2)(hr':r'<2^q.log2)(h:cl q m ^^^ r=cl q m' ^^^ r'):r=r':=by
 have e:cl q (m ^^^ m')=r ^^^ r':=by
  rw[kC];have h1:=n9 h;rw[h1,Nat.xor_assoc,Nat.xor_assoc,Nat.xor_comm r (cl q m'),<-Nat.xor_assoc r',Nat.xor_comm r',<-Nat.xor_assoc,<-Nat.xor_assoc,Nat.xor_self,Nat.zero_xor,Nat.xor_comm]
 have hm:=wx hq (by rw[e];exact Nat.xor_lt_two_pow hr hr');rw[hm,gJ]at e;have:=n9 e.symm;rw[Nat.zero_xor]at this;exact this
def Irr(p:Nat):Prop:=∀t,2<=t->2*t.log2<=p.log2->¬ ∃m,p=cl t m
theorem C1{p a b:Nat}(hi:Irr p)(ha:a<2^p.log2)(hb:b<2^p.log2)(hm:∃m,cl a b=cl p m):a=0\/b=0:=by
 apply Decidable.byContradiction;intro hc;have ha0:a≠0:=fun e=>hc (.inl e);have hb0:b≠0:=fun e=>hc (.inr e);have hp0:p≠0:=by
  rintro rfl;have h:Nat.log2 0=0:=by decide
  rw[h]at ha;omega
 obtain⟨a',_,⟨h1,h2,m,h3⟩,hmin⟩:=least (P:=fun a=>a≠0/\a<2^p.log2/\∃m,cl a b=cl p m) a ⟨ha0,ha,hm⟩;obtain⟨q,r,hr,he⟩:=EC a' h1 p;have hr0:r=0:=by
  apply Decidable.byContradiction;intro hr0;have hlt:r<a':=bd₀ hr (j0 h1);refine hmin r hlt ⟨hr0,byO,b ^^^ cl q m,?_⟩;have e:r=p ^^^ cl a' q:=by rw[he,Nat.xor_comm (cl a' q) r,Nat.xor_assoc,Nat.xor_self,Nat.xor_zero]
  rw[kC,e,HW,fD a' q,j9,h3,<-j9,fD q p,j9]
 rw[hr0,Nat.xor_zero]at he;have hq0:q≠0:=by rintro rfl;rw[gJ]at he;exact hp0 he
 have hlog:=yr h1 hq0;rw[<-he]at hlog;have ha2:2<=a':=by
  have:a'≠1:=by
   rintro rfl;rw[fD,uv]at h3;have:=wx hp0 (by rw[<-h3];exact hb);rw[this,gJ]at h3;exact hb0 h3
  omega
 have hal:a'.log2<p.log2:=by
  have:=Nat.lt_of_le_of_lt (j0 h1) h2;exact(Nat.pow_lt_pow_iff_right (by omega:1<2)).1 this
 have hq2:2<=q:=by
  have:q≠1:=by
   rintro rfl;have h:Nat.log2 1=0:=by decide
   omega
  omega
 rcases Nat.lt_or_ge p.log2 (2*a'.log2)with h|h
 ·exact hi q hq2 byO ⟨a',by rw[fD];exact he⟩
 ·exact hi a' ha2 h ⟨q,he⟩
structure FD where
 q:Nat
 poly:Nat
def FD.Ok(f:FD):Prop:=(f.poly=0/\2<f.q/\f.q<=4096/\Pr f.q)\/(f.poly≠0/\2<=f.poly/\f.poly.log2<=12/\f.q=2^f.poly.log2/\Irr f.poly)
structure El (f:FD) where
 val:Nat
 lt:val<f.q
theorem El.ext{f:FD}{a b:El f}(h:a.val=b.val):a=b:=by
 cases a;cases b;simp at h;subst h;rfl
theorem vY{p:Nat}(h:2<=p):1<=p.log2:=by
 have h1:=dR p;apply Decidable.byContradiction;intro hc;have:p.log2=0:=byO;rw[this]at h1;omega
theorem FD.Ok.two{f:FD}(h:f.Ok):2<=f.q/\f.q<=4096:=by
 rcases h with ⟨_,h1,h2,_⟩|⟨_,h1,h2,h3,_⟩
 ·omega
 ·rw[h3]
  have:=vY h1;have a:2^1<=2^f.poly.log2:=Nat.pow_le_pow_right byO this;have b:2^f.poly.log2<=2^12:=Nat.pow_le_pow_right byO h2;omega
theorem AF(p q:Nat)(hq:q≠0):∃r,r<2^q.log2/\∃m,p=cl q m ^^^ r:=by
 obtain⟨m,r,h1,h2⟩:=EC q hq p;exact⟨r,h1,m,h2⟩
noncomputable def rm(p q:Nat):Nat:=if h:q≠0 then(AF p q h).choose else 0
theorem yS{q:Nat}(hq:q≠0)(p:Nat):rm p q<2^q.log2:=by
 unfold rm;rw[dif_pos hq];exact(AF p q hq).choose_spec.1
theorem sY{q:Nat}(hq:q≠0)(p:Nat):∃m,p=cl q m ^^^ rm p q:=by
 unfold rm;rw[dif_pos hq];exact(AF p q hq).choose_spec.2
theorem uV{q:Nat}(hq:q≠0){p r m:Nat}(hr:r<2^q.log2)(h:p=cl q m ^^^ r):rm p q=r:=by
 obtain⟨m',h'⟩:=sY hq p;exact G0 hq (yS hq p) hr (h'.symm.trans h)
theorem AH{q:Nat}(hq:q≠0)(p m:Nat):rm (p ^^^ cl q m) q=rm p q:=by
 obtain⟨m',h'⟩:=sY hq p;refine uV hq (yS hq p) (m:=m' ^^^ m) ?_;rw[kC]
 conv=>lhs;rw[h']
 rw[Nat.xor_assoc,Nat.xor_comm (rm p q),Nat.xor_assoc]
theorem jU{q r:Nat}(hq:q≠0)(hr:r<2^q.log2):rm r q=r:=uV hq hr (m:=0) (by rw[gJ,Nat.zero_xor])
theorem G8{q:Nat}(hq:q≠0)(a b:Nat):rm (a ^^^ b) q=rm a q ^^^ rm b q:=by
 obtain⟨m,h⟩:=sY hq a;obtain⟨m',h'⟩:=sY hq b;refine uV hq (Nat.xor_lt_two_pow (yS hq a) (yS hq b)) (m:=m ^^^ m') ?_;rw[kC]
 conv=>lhs;rw[h,h']
 rw[Nat.xor_assoc,Nat.xor_assoc,<-Nat.xor_assoc (rm a q),Nat.xor_comm (rm a q),Nat.xor_assoc (cl q m')]
theorem wP{q:Nat}(hq:q≠0)(a b:Nat):rm (cl (rm a q) b) q=rm (cl a b) q:=by
 obtain⟨m,h⟩:=sY hq a;have e:cl a b=cl (rm a q) b ^^^ cl q (cl m b):=by
  conv=>lhs;rw[h]
  rw[HW,j9,Nat.xor_comm]
 rw[e,AH hq]
theorem Jk{q:Nat}(hq:q≠0)(a b:Nat):rm (cl a (rm b q)) q=rm (cl a b) q:=by rw[fD,wP hq,fD]
noncomputable def fJ(f:FD)(a b:Nat):Nat:=if f.poly=0 then(a+b)%f.q else a ^^^ b
noncomputable def eX(f:FD)(a b:Nat):Nat:=if f.poly=0 then a*b%f.q else rm (cl a b) f.poly
def rS(f:FD)(a:Nat):Nat:=if f.poly=0 then(f.q-a)%f.q else a
theorem Ac{f:FD}(h:f.Ok){a b:Nat}(ha:a<f.q)(hb:b<f.q):fJ f a b<f.q:=by
 unfold fJ;rcases h with ⟨h0,h1,_⟩|⟨h0,h1,h2,h3,_⟩
 ·rw[if_pos h0];exact Nat.mod_lt _ byO
 ·rw[if_neg h0,h3];exact Nat.xor_lt_two_pow (by rw[<-h3];exact ha) (by rw[<-h3];exact hb)
theorem Ad{f:FD}(h:f.Ok)(a b:Nat):eX f a b<f.q:=by
 unfold eX;rcases h with ⟨h0,h1,_⟩|⟨h0,h1,h2,h3,_⟩
 ·rw[if_pos h0];exact Nat.mod_lt _ byO
 ·rw[if_neg h0,h3];exact yS h0 _
theorem Ae{f:FD}(h:f.Ok){a:Nat}(ha:a<f.q):rS f a<f.q:=by
 unfold rS;have:=h.two;split
 ·exact Nat.mod_lt _ byO
 ·exact ha
theorem CO(f:FD)(a b:Nat):eX f a b=eX f b a:=by
 unfold eX;rw[bb₀,fD]
theorem zR{f:FD}(h:f.Ok)(a b c:Nat):eX f (eX f a b) c=eX f a (eX f b c):=by
 unfold eX;rcases h with ⟨h0,h1,_⟩|⟨h0,h1,h2,h3,_⟩
 ·rw[if_pos h0,if_pos h0,if_pos h0,if_pos h0,Nat.mod_mul_mod,Nat.mul_mod_mod,Nat.mul_assoc]
 ·rw[if_neg h0,if_neg h0,if_neg h0,if_neg h0,wP h0,Jk h0,j9]
theorem rR{f:FD}(h:f.Ok)(a b c:Nat):eX f a (fJ f b c)=fJ f (eX f a b) (eX f a c):=by
 unfold eX fJ;rcases h with ⟨h0,h1,_⟩|⟨h0,h1,h2,h3,_⟩
 ·simp only[if_pos h0]
  rw[Nat.mul_mod_mod,Nat.mul_add,<-Nat.add_mod]
 ·simp only[if_neg h0]
  rw[kC,G8 h0]
theorem zx{p a b:Nat}(hp:Pr p)(h:p ∣ a*b):p ∣ a\/p ∣ b:=by
 by_cases ha:p ∣ a
 ·exact .inl ha
 ·exact .inr (Nat.Coprime.dvd_of_dvd_mul_left (zw hp ha) h)
theorem vG{f:FD}(h:f.Ok){a b:Nat}(ha:a<f.q)(hb:b<f.q)(e:eX f a b=0):a=0\/b=0:=by
 unfold eX at e;rcases h with ⟨h0,h1,_,hp⟩|⟨h0,h1,h2,h3,hi⟩
 ·rw[if_pos h0]at e
  have hd:=Nat.dvd_of_mod_eq_zero e;rcases zx hp hd with h|h
  ·left
   apply Decidable.byContradiction;intro hc;have:=Nat.le_of_dvd byO h;omega
  ·right
   apply Decidable.byContradiction;intro hc;have:=Nat.le_of_dvd byO h;omega
 ·rw[if_neg h0]at e
  obtain⟨m,hm⟩:=sY h0 (cl a b);rw[e,Nat.xor_zero]at hm;exact C1 hi (by rw[<-h3];exact ha) (by rw[<-h3];exact hb) ⟨m,hm⟩
theorem oK{f:FD}(h:f.Ok){a:Nat}(ha:a<f.q):fJ f a (rS f a)=0:=by
 unfold fJ rS;rcases h with ⟨h0,h1,_⟩|⟨h0,h1,h2,h3,_⟩
 ·rw[if_pos h0,if_pos h0,Nat.add_mod_mod,show a+(f.q-a)=f.q by omega,Nat.mod_self]
 ·rw[if_neg h0,if_neg h0,Nat.xor_self]
theorem nM(f:FD)(a b c:Nat):fJ f (fJ f a b) c=fJ f a (fJ f b c):=by
 unfold fJ;split
 ·rw[Nat.mod_add_mod,Nat.add_mod_mod,Nat.add_assoc]
 ·rw[Nat.xor_assoc]
theorem iQ(f:FD)(a b:Nat):fJ f a b=fJ f b a:=by
 unfold fJ;rw[Nat.add_comm,Nat.xor_comm]
theorem pE{f:FD}(h:f.Ok){a:Nat}(ha:a<f.q):fJ f a 0=a:=by
 unfold fJ;split
 ·rw[Nat.add_zero,Nat.mod_eq_of_lt ha]
 ·rw[Nat.xor_zero]
theorem Ep{f:FD}(h:f.Ok){a:Nat}(ha:a<f.q):eX f a 1=a:=by
 unfold eX;rcases h with ⟨h0,h1,_⟩|⟨h0,h1,h2,h3,_⟩
 ·rw[if_pos h0,Nat.mul_one,Nat.mod_eq_of_lt ha]
 ·rw[if_neg h0,uv,jU h0 (by rw[<-h3];exact ha)]
theorem CP{f:FD}(h:f.Ok)(a:Nat):eX f a 0=0:=by
 unfold eX;rcases h with ⟨h0,h1,_⟩|⟨h0,h1,h2,h3,_⟩
 ·rw[if_pos h0];simp
 ·rw[if_neg h0,gJ,jU h0 (Nat.pow_pos byO)]
theorem xZ{f:FD}(h:f.Ok){a b c:Nat}(ha:a<f.q)(hb:b<f.q)(hc:c<f.q)(e:fJ f a b=fJ f a c):b=c:=by
 have:fJ f (rS f a) (fJ f a b)=fJ f (rS f a) (fJ f a c):=by rw[e]
 rw[<-nM,<-nM,iQ f (rS f a),oK h ha,iQ f 0,iQ f 0,pE h hb,pE h hc]at this;exact this
theorem vF{f:FD}(h:f.Ok){a:Nat}(ha:a<f.q)(h0:a≠0):∃b,b<f.q/\eX f a b=1:=by
 refine qJ (fun i _=>Ad h a i) (fun i j hi hj e=>?_) (by have:=h.two;omega);have hn:=Ae h hj;have e2:eX f a (fJ f i (rS f j))=0:=by
  rw[rR h,e,<-rR h,oK h hj,CP h]
 rcases vG h ha (Ac h hi hn) e2 with h1|h1
 ·exact absurd h1 h0
 ·apply xZ h hn hi hj
  rw[iQ f _ i,h1,iQ f _ j,oK h hj]
@[reducible] noncomputable def FD.Ok.fd{f:FD}(h:f.Ok):Fd (El f) where
 add a b:=⟨fJ f a.val b.val,Ac h a.lt b.lt⟩
 mul a b:=⟨eX f a.val b.val,Ad h _ _⟩
 neg a:=⟨rS f a.val,Ae h a.lt⟩
 zero:=⟨0,by have:=h.two;omega⟩
 one:=⟨1,by have:=h.two;omega⟩
 inv a:=if e:a.val≠0 then⟨(vF h a.lt e).choose,(vF h a.lt e).choose_spec.1⟩ else a
 add_assoc' a b c:=El.ext (nM f _ _ _)
 add_comm' a b:=El.ext (iQ f _ _)
 add_zero' a:=El.ext (pE h a.lt)
 add_neg' a:=El.ext (oK h a.lt)
 mul_assoc' a b c:=El.ext (zR h _ _ _)
 mul_comm' a b:=El.ext (CO f _ _)
 mul_one' a:=El.ext (Ep h a.lt)
 mul_add' a b c:=El.ext (rR h _ _ _)
 mul_inv' a ha:=by
  have e:a.val≠0:=fun e=>ha (El.ext e);apply El.ext;simp only[dif_pos e];exact(vF h a.lt e).choose_spec.2
 one_ne':=by intro e;have:=congrArg El.val e;simp at this
 dec a b:=if e:a.val=b.val then isTrue (El.ext e) else isFalse fun e2=>e (by rw[e2])
noncomputable def FD.Ok.num{f:FD}(h:f.Ok):@Num (El f) h.fd:=@Num.mk (El f) h.fd f.q El.val El.lt (fun _ _=>El.ext) (fun i hi=>⟨⟨i,hi⟩,rfl⟩) rfl
end Go.RS
namespace Go.RS
class OkC (f:FD):Prop where
 ok:f.Ok
noncomputable instance {f:FD}[h:OkC f]:Fd (El f):=h.ok.fd
section
variable {f:FD}[OkC f]
theorem qL:(0:El f).val=0:=rfl
theorem RW:(1:El f).val=1:=rfl
theorem val_mul(a b:El f):(a*b).val=eX f a.val b.val:=rfl
theorem val_add(a b:El f):(a+b).val=fJ f a.val b.val:=rfl
theorem jO{a:El f}(h:a≠0):a.val≠0:=fun e=>h (El.ext e)
theorem dS{a:El f}(h:a.val=0):a=0:=El.ext h
end
section
variable {K:Type}[Fd K]
theorem sU{g:K}{n:Nat}(hg:g≠0)(h:Ord g n):∀i j,i<n->j<n->pw g i=pw g j->i=j:=by
 have key:∀i k,i+k<n->pw g i=pw g (i+k)->k=0:=by
  intro i k hk e;rw[eh]at e;have e2:pw g k=1:=by
   symm
   apply mul_left_cancel (cJ hg i);rw[mul_one];exact e
  apply Decidable.byContradiction;intro hk0;exact h.2.2 k byO byO e2
 intro i j hi hj e;rcases Nat.le_total i j with h|h
 ·have:=key i (j-i) byO (by rw[show i+(j-i)=j by omega];exact e);omega
 ·have:=key j (i-j) byO (by rw[show j+(i-j)=i by omega];exact e.symm);omega
theorem Num.pow_sur(N:Num K){g:K}(hg:g≠0)(h:Ord g (N.q-1)){x:K}(hx:x≠0):∃n,n<N.q-1/\pw g n=x:=by
 have hv:∀{y:K},y≠0->N.val y≠0:=fun hy e=>hy (N.inj _ 0 (by rw[e,N.v0]));obtain⟨n,hn,e⟩:=qJ (q:=N.q-1) (f:=fun i=>N.val (pw g i)-1) (fun i hi=>by
   have h1:=N.lt (pw g i);have h2:=hv (cJ hg i);omega) (fun i j hi hj e=>by
   have h1:=hv (cJ hg i);have h2:=hv (cJ hg j);exact sU hg h i j hi hj (N.inj _ _ byO)) (y:=N.val x-1) (by
   have h1:=N.lt x;have h2:=hv hx;omega)
 refine⟨n,hn,N.inj _ _ ?_⟩;have h1:=hv (cJ hg n);have h2:=hv hx;omega
end
section
variable {f:FD}[OkC f]
theorem pow_sur{g:El f}(hg:g≠0)(h:Ord g (f.q-1)){x:El f}(hx:x≠0):∃n,n<f.q-1/\pw g n=x:=Num.pow_sur (OkC.ok (f:=f)).num hg h hx
end
section
variable {K:Type}[Fd K]
theorem FU{g:K}{n k m:Nat}(h:pw g n=1)(hk:k+m=n):inv (pw g k)=pw g m:=by
 apply pG;rw[<-eh,hk,h]
theorem E8{g:K}{n i j:Nat}(h:Ord g n)(hi:i<n)(hj:j<n):pw g ((i+n-j)%n)=pw g i*inv (pw g j):=by
 rw[wL h.2.1,FU (m:=n-j) h.2.1 byO,<-eh,show i+n-j=i+(n-j) by omega]
theorem BE{g:K}{n i j:Nat}(h:Ord g n):pw g ((i+j)%n)=pw g i*pw g j:=by
 rw[wL h.2.1,eh]
end
end Go.RS
namespace Go.RS
section
variable {K:Type}[Fd K]
def co(l:List K):Ser K:=fun i=>l.getD i 0
def tab(n:Nat)(F:Nat->K):List K:=(List.range n).map F
theorem aK(n:Nat)(F:Nat->K):(tab n F).length=n:=by simp[tab]
theorem pn{l:List K}{i:Nat}(h:i<l.length):co l i=l[i]:=by
 unfold co;rw[au₀,bc₀ h];rfl
theorem fY{l:List K}{i:Nat}(h:l.length<=i):co l i=0:=by
 unfold co;rw[au₀,av₀ h];rfl
theorem fj{n:Nat}{F:Nat->K}{i:Nat}(h:i<n):(tab n F).getD i 0=F i:=by
 simp[tab,au₀,h]
theorem cm(n:Nat)(F:Nat->K)(i:Nat):co (tab n F) i=if i<n then F i else 0:=by
 split
 ·rename_i h;exact fj h
 ·rename_i h;exact fY (by rw[aK];omega)
theorem aS{n:Nat}{F G:Nat->K}(h:∀i,i<n->F i=G i):tab n F=tab n G:=by
 unfold tab;apply List.map_congr_left;intro i hi;exact h i (by simpa using hi)
theorem w6(l:List K):tab l.length (co l)=l:=by
 apply List.ext_getElem (by rw[aK]);intro i h1 h2;simp only[tab,List.getElem_map,List.getElem_range];exact pn h2
theorem gO{n:Nat}{F:Nat->K}{k:Nat}{v:K}:(tab n F).set k v=tab n (fun i=>if i=k then v else F i):=by
 apply List.ext_getElem
 ·simp[tab]
 ·intro i h1 h2
  rw[List.getElem_set];simp only[tab,List.getElem_map,List.getElem_range];split
  ·rename_i h;rw[if_pos h.symm]
  ·rename_i h;rw[if_neg (fun e=>h e.symm)]
theorem eu(n:Nat):List.replicate n (0:K)=tab n (fun _=>0):=by
 apply List.ext_getElem
 ·simp[tab]
 ·intro i h1 h2;simp[tab]
theorem HB{n:Nat}{F:Nat->K}{l:List K}(h:l.length=n)(h2:∀i,i<n->co l i=F i):l=tab n F:=by
 rw[<-w6 l,h];exact aS h2
theorem Av{l m:List K}(h:l.length=m.length)(h2:∀i,i<l.length->co l i=co m i):l=m:=by
 rw[<-w6 l,<-w6 m,h];exact aS (by rw[<-h];exact h2)
theorem Pq(l:List K):dg (co l) (l.length-1):=fun i hi=>fY byO
def hor(l:List K)(x:K):K:=l.foldr (fun c v=>v*x+c) 0
theorem vQ(x:K):∀l:List K,hor l x=sm l.length (fun i=>co l i*pw x i)
 | []=>rfl
 | c::l=>by
  show hor l x*x+c=_;rw[ak₀,jA,vQ x l,o7];have e0:co (c::l) 0*pw x 0=c:=mul_one c;rw[e0,add_comm];congr 1;refine ay fun i hi=>?_;show co l i*pw x i*x=co l i*(pw x i*x);rw[mul_assoc]
theorem zW{l:List K}{d:Nat}(h:dg (co l) d)(x:K):hor l x=pv (co l) d x:=by
 rw[vQ];unfold pv;rcases Nat.le_total l.length (d+1)with h1|h1
 ·exact(gF h1 fun i a b=>by rw[fY a,zero_mul]).symm
 ·exact gF h1 fun i a b=>by rw[h i byO,zero_mul]
def dJ(l:List K)(x:K):K:=l.foldl (fun v c=>v*x+c) 0
theorem xg(l m:List K)(x:K):dJ (l++m) x=m.foldl (fun v c=>v*x+c) (dJ l x):=by
 unfold dJ;rw[List.foldl_append]
theorem ri{l:List K}{i:Nat}(h:i<l.length)(x:K):dJ (l.take (i+1)) x=dJ (l.take i) x*x+co l i:=by
 rw[List.take_add_one,bc₀ h,xg];show _*x+l[i]=_;rw[pn h]
theorem FM(l:List K)(x:K):dJ l x=hor l.reverse x:=by
 unfold dJ hor;rw[List.foldr_reverse]
theorem Al(x:K):∀l:List K,dJ l x=sm l.length (fun i=>co l i*pw x (l.length-1-i)):=by
 intro l;rw[FM,vQ,List.length_reverse,wY];refine ay fun i hi=>?_;have:co l.reverse (l.length-1-i)=co l i:=by
  rw[pn (by rw[List.length_reverse];omega),pn hi,List.getElem_reverse];congr 1;omega
 rw[this]
def rows(p q:Ser K)(i k:Nat):K:=sm i (fun a=>p a*sh a q k)
theorem Jm{p q:Ser K}{n:Nat}(hp:∀i,n<=i->p i=0)(k:Nat):rows p q n k=cv p q k:=by
 unfold rows cv;have e1:sm (max n (k+1)) (fun a=>p a*sh a q k)=sm n (fun a=>p a*sh a q k):=gF byO fun i h1 h2=>by rw[hp i h1,zero_mul]
 have e2:sm (max n (k+1)) (fun a=>p a*sh a q k)=sm (k+1) (fun a=>p a*sh a q k):=gF byO fun i h1 h2=>by rw[mz _ byO,mul_zero]
 rw[<-e1,e2];exact ay fun i hi=>by rw[iz _ byO]
theorem DA(p q:Ser K)(i k:Nat):rows p q (i+1) k=rows p q i k+p i*sh i q k:=rfl
def bml(s:Ser K):Nat->Nat×Nat
 | 0=>(1,1)
 | n+1=>if cv (Reg.run s n).C s n=0 then bml s n
  else(max (bml s n).1 ((bml s n).2+(Reg.run s n).m),if 2*(Reg.run s n).L<=n then(bml s n).1 else(bml s n).2)
theorem qn(s:Ser K):∀n,(∀i,(bml s n).1<=i->(Reg.run s n).C i=0)/\(∀i,(bml s n).2<=i->(Reg.run s n).B i=0)/\1<=(bml s n).1
 | 0=>by
  refine⟨fun i hi=>?_,fun i hi=>?_,Nat.le_refl _⟩
  ·show(s1:Ser K) i=0
   unfold s1;rw[if_neg (by simp[bml]at hi;omega)]
  ·show(s1:Ser K) i=0
   unfold s1;rw[if_neg (by simp[bml]at hi;omega)]
 | n+1=>by
  obtain⟨h1,h2,h3⟩:=qn s n;simp only[bml,Reg.run,Reg.next];split
  ·exact⟨h1,h2,h3⟩
  ·have hC:∀i,max (bml s n).1 ((bml s n).2+(Reg.run s n).m)<=i->(Reg.run s n).C i-cv (Reg.run s n).C s n*inv (Reg.run s n).b*sh (Reg.run s n).m (Reg.run s n).B i=0:=by
    intro i hi;rw[h1 i byO,iz _ byO,h2 (i-(Reg.run s n).m) byO,mul_zero];exact(show(0-0)=0 from bG [((1:K))] (.add .zero (.neg .zero)) .zero rfl)
   split
   ·exact⟨hC,h1,by simp only;omega⟩
   ·exact⟨hC,h2,by simp only;omega⟩
def trim:List K->List K
 | []=>[]
 | a::l=>match trim l with
  | []=>if a=0 then[] else[a]
  | m=>a::m
theorem lk:∀l:List K,trim (l++[0])=trim l
 | []=>by simp[trim]
 | a::l=>by simp only[am₀,trim,lk l]
theorem oc{b:K}(hb:b≠0):∀l:List K,trim (l++[b])=l++[b]
 | []=>by simp[trim,hb]
 | a::l=>by
  simp only[am₀,trim,oc hb l];split
  ·rename_i h;simp at h
  ·rfl
theorem p9{l:List K}:∀{n:Nat},n<=l.length->(∀i,n<=i->co l i=0)->trim (l.take n)=trim l:=by
 intro n hn hz;have key:∀k,n+k<=l.length->trim (l.take (n+k))=trim (l.take n):=by
  intro k
  induction k with
  | zero=>intro _;rfl
  | succ k ih=>
   intro hk;rw[<-Nat.add_assoc,List.take_add_one,bc₀ (show n+k<l.length by omega)];have:l[n+k]=0:=by rw[<-pn (show n+k<l.length by omega)];exact hz _ byO
   rw[this,Option.toList_some,lk,ih byO]
 have:=key (l.length-n) byO;rw[show n+(l.length-n)=l.length by omega,List.take_length]at this;exact this.symm
theorem u9{l:List K}{n:Nat}(hn:n<l.length)(h:co l n≠0):trim (l.take (n+1))=l.take (n+1):=by
 rw[List.take_add_one,bc₀ hn,Option.toList_some];exact oc (by rw[<-pn hn];exact h) _
theorem iA:∀(l:List K) (i:Nat),co (trim l) i=co l i
 | [],_=>rfl
 | a::l,i=>by
  have ih:=iA l;simp only[trim];split
  ·rename_i h
   rw[h]at ih;split
   ·rename_i ha
    cases i with
    | zero=>rw[ha];rfl
    | succ i=>exact ih i
   ·cases i with
    | zero=>rfl
    | succ i=>exact ih i
  ·cases i with
   | zero=>rfl
   | succ i=>exact ih i
theorem lh:∀l:List K,(trim l).length<=l.length
 | []=>Nat.le_refl _
 | a::l=>by
  have:=lh l;simp only[trim];split
  ·split<;>simp
  ·simpa using this
theorem oe:∀l:List K,trim l≠[]->co l ((trim l).length-1)≠0
 | [],h=>absurd rfl h
 | a::l,h=>by
  have ih:=oe l;simp only[trim]at h ⊢;split at h
  ·rename_i ht
   split at h
   ·exact absurd rfl h
   ·rename_i ha;simp only[if_neg ha];exact ha
  ·rename_i hm
   have hne:trim l≠[]:=fun e=>hm e;have:=ih hne;show co (a::l) ((a::trim l).length-1)≠0;have hpos:0<(trim l).length:=List.length_pos_iff.2 hne;rw[ak₀,show(trim l).length+1-1=((trim l).length-1)+1 by omega];exact this
end
end Go.RS
namespace Go.RS
section
variable {K:Type}[Fd K]
def mon(r:K):Ser K:=fun n=>if n=0 then-r else if n=1 then 1 else 0
theorem E7(r:K):dg (mon r) 1:=by
 intro i hi;unfold mon;rw[if_neg byO,if_neg byO]
theorem xJ(r:K)(p:Ser K):cv p (mon r) 0=- (p 0*r):=by
 rw[qX];show p 0*- r=_;rw[mul_neg]
theorem zH(r:K)(p:Ser K)(n:Nat):cv p (mon r) (n+1)=p n-p (n+1)*r:=by
 rw[dI];unfold cv;rw[jA,jA,dd (n:=n) (fun i _=>by unfold mon;rw[if_neg byO,if_neg byO,zero_mul])];show-r*p (n+1)+(1*p n+0)=_;exact(show(((-r)*(p (n+1)))+((1*(p n))+0))=((p n)-((p (n+1))*r)) from bG [r,(p (n+1)),(p n)] (.add (.mul (.neg (.v 0)) (.v 1)) (.add (.mul .one (.v 2)) .zero)) (.add (.v 2) (.neg (.mul (.v 1) (.v 0)))) rfl)
def gp(rs:Nat->K):Nat->Ser K
 | 0=>s1
 | n+1=>cv (gp rs n) (mon (rs n))
theorem ti(rs:Nat->K):∀n,dg (gp rs n) n
 | 0=>A6
 | n+1=>xO (ti rs n) (E7 _)
theorem FE(rs:Nat->K):∀n,gp rs n n=1
 | 0=>rfl
 | n+1=>by
  show cv (gp rs n) (mon (rs n)) (n+1)=1;rw[zH,FE rs n,ti rs n (n+1) byO,zero_mul];exact(show(1-0)=1 from bG [((1:K))] (.add .one (.neg .zero)) .one rfl)
def qR(rs:Nat->K)(n:Nat):List K:=tab (n+1) (gp rs n)
theorem rX(rs:Nat->K)(n:Nat):(qR rs n).length=n+1:=aK _ _
theorem ux(rs:Nat->K)(n:Nat):co (qR rs n)=gp rs n:=by
 funext i;unfold qR;rw[cm];split
 ·rfl
 ·exact(ti rs n i byO).symm
theorem xd{rs rs':Nat->K}:∀{n:Nat},(∀i,i<n->rs i=rs' i)->gp rs n=gp rs' n
 | 0,_=>rfl
 | n+1,h=>by rw[gp,gp,xd (fun i hi=>h i byO),h n byO]
theorem OW(r x:K):pv (mon r) 1 x=x-r:=by
 unfold pv;rw[br,AL];show-r*1+1*pw x 1=_;rw[wM];exact(show(((-r)*1)+(1*x))=(x-r) from bG [r,x] (.add (.mul (.neg (.v 0)) .one) (.mul .one (.v 1))) (.add (.v 1) (.neg (.v 0))) rfl)
theorem sS(rs:Nat->K):∀n i,i<n->pv (gp rs n) n (rs i)=0
 | 0,i,h=>by omega
 | n+1,i,h=>by
  have:=lZ (ti rs n) (E7 (rs n)) (rs i);show pv (cv (gp rs n) (mon (rs n))) (n+1) (rs i)=0;rw[this,OW];by_cases e:i=n
  ·rw[e,sub_self,mul_zero]
  ·rw[sS rs n i byO,zero_mul]
end
end Go.RS
namespace Go.RS
section
variable {K:Type}[Fd K]
def HZ(rt:Nat->K)(r:Nat)(w:List K):Prop:=∀i,i<r->dJ w (rt i)=0
theorem tV{p:Ser K}{m:Nat}{xs:List K}(hp:dg p m)(hl:xs.length=m+1)(hn:xs.Nodup)(h0:∀x ∈ xs,x≠0)(hr:∀x ∈ xs,pv p m x=0):∀i,p i=0:=by
 have hlen:(xs.take m).length=m:=by simp;omega
 have hsub:∀x ∈ xs.take m,x ∈ xs:=fun x hx=>List.mem_of_mem_take hx;have hinvn:((xs.take m).map inv).Nodup:=by
  rw[List.nodup_iff_pairwise_ne,List.pairwise_map];refine List.Pairwise.imp_of_mem ?_ (List.nodup_iff_pairwise_ne.1 (hn.sublist (List.take_sublist m xs)));intro a b ha hb hne e;apply hne;rw[<-inv_inv (h0 a (hsub a ha)),e,inv_inv (h0 b (hsub b hb))]
 obtain⟨q,hq,hpq⟩:=mS ((xs.take m).map inv) (xs.take m) p 0 (by simp) hinvn (fun i h h'=>by
  rw[List.getElem_map];exact inv_mul (h0 _ (hsub _ (List.getElem_mem h')))) (by rw[ay₀,hlen];exact hp) (fun x hx=>by rw[ay₀,hlen];exact hr x (hsub x hx))
 have hm:m<xs.length:=byO;have hnot:inv xs[m] ∉ (xs.take m).map inv:=by
  intro hm2;obtain⟨x,hx,e⟩:=List.mem_map.1 hm2;have e2:x=xs[m]:=by rw[<-inv_inv (h0 x (hsub x hx)),e,inv_inv (h0 _ (List.getElem_mem hm))]
  obtain⟨i,hi,e3⟩:=List.getElem_of_mem hx;rw[List.getElem_take,e2]at e3;have:=(List.getElem_inj hn).1 e3;simp at hi;omega
 have hne:=fP hnot (inv_mul (h0 _ (List.getElem_mem hm)));rw[ay₀,hlen]at hne;have hdl:=eJ ((xs.take m).map inv);rw[ay₀,hlen]at hdl;have hv:=lZ hdl hq xs[m];rw[<-hpq,Nat.add_zero,hr _ (List.getElem_mem hm)]at hv;have hq0:q 0=0:=by
  rcases mul_eq_zero hv.symm with h|h
  ·exact absurd h hne
  ·unfold pv at h
   rw[AL,gM,mul_one]at h;exact h
 intro i;rw[hpq];refine dd fun j hj=>?_;by_cases e:i-j=0
 ·rw[e,hq0,mul_zero]
 ·rw[hq (i-j) byO,mul_zero]
theorem xi(w:List K)(x:K):dJ w x=sm w.length (fun j=>co w (w.length-1-j)*pw x j):=by
 rw[Al,wY];refine ay fun i hi=>?_;rw[show w.length-1-(w.length-1-i)=i by omega]
theorem Hz{rt:Nat->K}{r:Nat}{w w':List K}(hr:1<=r)(hd:∀i j,i<r->j<r->rt i=rt j->i=j)(h0:∀i,i<r->rt i≠0)(hw:HZ rt r w)(hw':HZ rt r w')(hl:w.length=w'.length)(hlr:r<=w.length)(hp:∀i,i<w.length-r->co w i=co w' i):w=w':=by
 have hz:=tV (p:=fun j=>if j<r then co w (w.length-1-j)-co w' (w.length-1-j) else 0) (m:=r-1) (xs:=(List.range r).map rt)
  (fun i hi=>if_neg byO) (by simp;omega) (by
   rw[List.nodup_iff_pairwise_ne,List.pairwise_map];refine List.Pairwise.imp_of_mem ?_ (List.nodup_iff_pairwise_ne.1 List.nodup_range);intro a b ha hb hne e;exact hne (hd a b (by simpa using ha) (by simpa using hb) e)) (by
   intro x hx;obtain⟨i,hi,rfl⟩:=List.mem_map.1 hx;exact h0 i (by simpa using hi)) (by
   intro x hx;obtain⟨i,hi,rfl⟩:=List.mem_map.1 hx;have hi:i<r:=by simpa using hi
   have e1:=hw i hi;have e2:=hw' i hi;rw[xi]at e1 e2;have e3:sm w.length (fun j=>(if j<r then co w (w.length-1-j)-co w' (w.length-1-j) else 0)*pw (rt i) j)=0:=by
    have:sm w.length (fun j=>(if j<r then co w (w.length-1-j)-co w' (w.length-1-j) else 0)*pw (rt i) j)=sm w.length (fun j=>co w (w.length-1-j)*pw (rt i) j+- (co w' (w'.length-1-j)*pw (rt i) j)):=by
     refine ay fun j hj=>?_;by_cases hjr:j<r
     ·rw[if_pos hjr,hl]
      exact(show(((co w (w'.length-1-j))-(co w' (w'.length-1-j)))*(pw (rt i) j))=(((co w (w'.length-1-j))*(pw (rt i) j))+(-((co w' (w'.length-1-j))*(pw (rt i) j)))) from bG [(co w (w'.length-1-j)),(co w' (w'.length-1-j)),(pw (rt i) j)] (.mul (.add (.v 0) (.neg (.v 1))) (.v 2)) (.add (.mul (.v 0) (.v 2)) (.neg (.mul (.v 1) (.v 2)))) rfl)
     ·rw[if_neg hjr,hp (w.length-1-j) byO,hl]
      exact(show(0*(pw (rt i) j))=(((co w' (w'.length-1-j))*(pw (rt i) j))+(-((co w' (w'.length-1-j))*(pw (rt i) j)))) from bG [(co w' (w'.length-1-j)),(pw (rt i) j)] (.mul .zero (.v 1)) (.add (.mul (.v 0) (.v 1)) (.neg (.mul (.v 0) (.v 1)))) rfl)
    rw[this,n6,e1,<-wX];rw[<-hl]at e2;have e4:sm w.length (fun j=>co w' (w'.length-1-j)*pw (rt i) j)=0:=by rw[<-hl];exact e2
    rw[e4];exact(show(0+(-0))=0 from bG [((1:K))] (.add .zero (.neg .zero)) .zero rfl)
   unfold pv;rw[show r-1+1=r by omega];rw[gF (m:=r) hlr (fun j h1 h2=>by rw[if_neg byO,zero_mul])]at e3;exact e3)
 refine Av hl fun i hi=>?_;by_cases h:i<w.length-r
 ·exact hp i h
 ·have:=hz (w.length-1-i)
  rw[if_pos byO,show w.length-1-(w.length-1-i)=i by omega]at this;exact sub_eq_zero this
theorem IJ{rt:Nat->K}{r n:Nat}{data w S R:List K}{Q:Ser K}{N:Nat}(hn:n=data.length+r)(hS:∀k,co S k=if r<=k/\k<n then co data (n-1-k) else 0)(he:∀k,co S k=cv Q (gp rt r) k+co R k)(hR:∀k,r<=k->co R k=0)(hQ:∀k,N<=k->Q k=0)(hwl:w.length=n)(hw:∀i,i<data.length->co w i=co data i)(hw2:∀k,k<r->co w (n-1-k)=- co R k):HZ rt r w:=by
 intro i hi;rw[xi,hwl];have e1:sm n (fun j=>co w (n-1-j)*pw (rt i) j)=sm n (fun j=>cv Q (gp rt r) j*pw (rt i) j):=by
  refine ay fun j hj=>?_;congr 1;have e:=he j;rw[hS j]at e;by_cases hjr:j<r
  ·rw[if_neg byO]at e
   rw[hw2 j hjr];have:cv Q (gp rt r) j+co R j=0:=e.symm;rw[add_comm]at this;exact iT this
  ·rw[if_pos byO,hR j byO,add_zero]at e
   rw[hw (n-1-j) byO,e]
 have hdQ:dg Q N:=fun k hk=>hQ k byO;have hz:∀k,n<=k->cv Q (gp rt r) k=0:=by
  intro k hk;have e:=he k;rw[hS k,if_neg byO,hR k byO,add_zero]at e;exact e.symm
 have e2:sm n (fun j=>cv Q (gp rt r) j*pw (rt i) j)=pv (cv Q (gp rt r)) (N+r) (rt i):=by
  unfold pv;rcases Nat.le_total n (N+r+1)with h|h
  ·exact(gF h fun k h1 h2=>by rw[hz k h1,zero_mul]).symm
  ·exact gF h fun k h1 h2=>by rw[xO hdQ (ti rt r) k byO,zero_mul]
 rw[e1,e2,lZ hdQ (ti rt r),sS rt r i hi,mul_zero]
end
end Go.RS
namespace Go.RS
section
variable {K:Type}[Fd K]
theorem iS(X:K):∀l:List K,ag (l++[X])=cv (lin X) (ag l)
 | []=>rfl
 | Y::l=>by
  show cv (lin Y) (ag (l++[X]))=cv (lin X) (cv (lin Y) (ag l));rw[iS X l,<-dN,dI (lin Y),dN]
theorem rz:∀(l:List K) (j:Nat) (h:j<l.length),ag l=cv (lin l[j]) (ag (l.eraseIdx j))
 | [],j,h=>by simp at h
 | X::l,0,_=>rfl
 | X::l,j+1,h=>by
  have hj:j<l.length:=by simpa using h
  show cv (lin X) (ag l)=cv (lin l[j]) (cv (lin X) (ag (l.eraseIdx j)));rw[rz l j hj,<-dN,<-dN,dI (lin X)]
theorem zG{p:Ser K}{s:Nat}(hp:dg p s){X:K}(hX:X≠0)(k:Nat):cv p (geo X) (s+k)=pw X (s+k)*pv p s (inv X):=by
 unfold cv pv;rw[gF (m:=s+1) byO (fun i h1 h2=>by rw[hp i byO,zero_mul]),k8];refine ay fun i hi=>?_;obtain⟨j,hj⟩:∃j,s+k=j+i:=⟨s+k-i,byO⟩;show p i*pw X (s+k-i)=_;rw[hj,show j+i-i=j by omega,eh];have:=mq (eC hX) i;have e:=(show(((pw X j)*(pw X i))*((p i)*(pw (inv X) i)))=(((p i)*(pw X j))*((pw X i)*(pw (inv X) i))) from bG [(p i),(pw X j),(pw X i),(pw (inv X) i)] (.mul (.mul (.v 1) (.v 2)) (.mul (.v 0) (.v 3))) (.mul (.mul (.v 0) (.v 1)) (.mul (.v 2) (.v 3))) rfl);rw[e,this,mul_one]
def thin(p:Ser K)(s:Nat)(l:List (K×K)):List (K×K):=l.map fun a=>(a.1*pw a.2 s*pv p s (inv a.2),a.2)
theorem tg{p:Ser K}{s:Nat}(hp:dg p s):∀(l:List (K×K)),(∀a ∈ l,a.2≠0)->∀k,cv p (gs l) (s+k)=gs (thin p s l) k
 | [],_,k=>by
  show cv p (fun _=>0) (s+k)=0;rw[oA]
 | (y,X)::l,h,k=>by
  have hX:=h (y,X) (by simp);show cv p (fun n=>y*geo X n+gs l n) (s+k)=y*pw X s*pv p s (inv X)*geo X k+gs (thin p s l) k;rw[rE,th,zG hp hX,tg hp l (fun a ha=>h a (by simp[ha])) k,eh];congr 1;show y*(pw X s*pw X k*pv p s (inv X))=y*pw X s*pv p s (inv X)*pw X k;exact(show(y*(((pw X s)*(pw X k))*(pv p s (inv X))))=(((y*(pw X s))*(pv p s (inv X)))*(pw X k)) from bG [y,(pw X s),(pw X k),(pv p s (inv X))] (.mul (.v 0) (.mul (.mul (.v 1) (.v 2)) (.v 3))) (.mul (.mul (.mul (.v 0) (.v 1)) (.v 3)) (.v 2)) rfl)
theorem vN(l m:List (K×K))(k:Nat):gs (l++m) k=gs l k+gs m k:=by
 induction l with
 | nil=>exact(zero_add _).symm
 | cons a l ih=>
  obtain⟨y,X⟩:=a;show y*geo X k+gs (l++m) k=y*geo X k+gs l k+gs m k;rw[ih,add_assoc]
theorem Ba(p:Ser K)(s:Nat)(l:List (K×K)):xs (thin p s l)=xs l:=by simp[xs,thin]
theorem yY(p:Ser K)(s:Nat)(l:List (K×K)):(thin p s l).length=l.length:=by simp[thin]
theorem Iz{S:Ser K}{r:Nat}(lE lF:List (K×K))(hS:∀k,k<r->S k=gs (lE++lF) k)(hX:∀a ∈ lE++lF,a.2≠0)(hy:∀a ∈ lF,a.1≠0)(hn:(xs (lE++lF)).Nodup)(hfew:2*lF.length+lE.length<=r) :
  (Reg.run (fun k=>cv S (ag (xs lE)) (lE.length+k)) (r-lE.length)).C=ag (xs lF)/\(Reg.run (fun k=>cv S (ag (xs lE)) (lE.length+k)) (r-lE.length)).L=lF.length:=by
 have hdE:=eJ (xs lE);rw[fR]at hdE;have hX1:∀a ∈ lF,a.2≠0:=fun a ha=>hX a (by simp[ha]);have hxs:xs (lE++lF)=xs lE++xs lF:=by simp[xs]
 rw[hxs]at hn;have hseq:∀k,k<r-lE.length->cv S (ag (xs lE)) (lE.length+k)=gs (thin (ag (xs lE)) lE.length lF) k:=by
  intro k hk;have e1:cv S (ag (xs lE)) (lE.length+k)=cv (fun k=>gs lE k+gs lF k) (ag (xs lE)) (lE.length+k):=
   jb (fun i hi=>by rw[hS i byO,vN]) (fun _ _=>rfl)
  rw[e1,rD,dI,xI,mj lE _ byO,zero_add,dI,tg hdE lF hX1]
 have hrun:=l7 (fun k=>cv S (ag (xs lE)) (lE.length+k)) (r-lE.length);have hu:=Bs hrun.gen hrun.min (thin (ag (xs lE)) lE.length lF) (by
  intro a ha;obtain⟨c,hc,rfl⟩:=List.mem_map.1 ha;have hcX:=hX1 c hc;refine mul_ne_zero (mul_ne_zero (hy c hc) (cJ hcX _)) ?_;have hnot:c.2 ∉ xs lE:=by
   intro hm;have:=(List.nodup_append.1 hn).2.2 c.2 hm c.2 (List.mem_map.2 ⟨c,hc,rfl⟩);exact this rfl
  have:=fP hnot (eC hcX);rwa [fR]at this) (by
  intro a ha;obtain⟨c,hc,rfl⟩:=List.mem_map.1 ha;exact hX1 c hc) (by rw[Ba];exact(List.nodup_append.1 hn).2.1) hseq (by rw[yY];omega)
 rw[Ba,yY]at hu;exact hu
def der(p:Ser K):Ser K:=fun n=>nsm 1 (n+1)*p (n+1)
theorem IE(X:K)(p:Ser K)(n:Nat):der (cv (lin X) p) n=cv (lin X) (der p) n-X*p n:=by
 unfold der;rw[nF];cases n with
 | zero=>
  rw[nz];show nsm 1 1*(p 1-X*p 0)=nsm 1 1*p 1-X*p 0;have e:nsm (1:K) 1=1:=zero_add 1;rw[e];exact(show(1*((p 1)-(X*(p 0))))=((1*(p 1))-(X*(p 0))) from bG [X,(p 1),(p 0)] (.mul .one (.add (.v 1) (.neg (.mul (.v 0) (.v 2))))) (.add (.mul .one (.v 1)) (.neg (.mul (.v 0) (.v 2)))) rfl)
 | succ n=>
  rw[nF];have e:nsm (1:K) (n+1+1)=nsm 1 (n+1)+1:=rfl;rw[e];exact(show(((nsm (1:K) (n+1))+1)*((p (n+1+1))-(X*(p (n+1)))))=(((((nsm (1:K) (n+1))+1)*(p (n+1+1)))-(X*((nsm (1:K) (n+1))*(p (n+1)))))-(X*(p (n+1)))) from bG [X,(nsm (1:K) (n+1)),(p (n+1+1)),(p (n+1))] (.mul (.add (.v 1) .one) (.add (.v 2) (.neg (.mul (.v 0) (.v 3))))) (.add (.add (.mul (.add (.v 1) .one) (.v 2)) (.neg (.mul (.v 0) (.mul (.v 1) (.v 3))))) (.neg (.mul (.v 0) (.v 3)))) rfl)
theorem Mb{p:Ser K}{d:Nat}(h:dg p (d+1)):dg (der p) d:=fun i hi=>by
 show nsm 1 (i+1)*p (i+1)=0;rw[h (i+1) byO,mul_zero]
theorem E5{l:List K}{j:Nat}(hj:j<l.length){x:K}(e:l[j]*x=1):pv (der (ag l)) (l.length-1) x=- (l[j]*pv (ag (l.eraseIdx j)) (l.length-1) x):=by
 have h1:=rz l j hj;have hl:=List.length_eraseIdx_of_lt hj;have hd:=eJ (l.eraseIdx j);rw[hl]at hd;have hdd:dg (der (ag (l.eraseIdx j))) (l.length-1-1):=by
  by_cases h0:l.length-1=0
  ·intro i hi
   show nsm 1 (i+1)*ag (l.eraseIdx j) (i+1)=0;rw[hd (i+1) byO,mul_zero]
  ·exact Mb (by rw[show l.length-1-1+1=l.length-1 by omega];exact hd)
 have e2:der (ag l)=fun n=>cv (lin l[j]) (der (ag (l.eraseIdx j))) n+- (l[j]*ag (l.eraseIdx j) n):=by
  rw[h1];funext n;rw[IE];rfl
 rw[e2,AA];have e3:pv (cv (lin l[j]) (der (ag (l.eraseIdx j)))) (l.length-1) x=0:=by
  by_cases h0:l.length-1=0
  ·have hz:der (ag (l.eraseIdx j))=fun _=>0:=by
    funext n;show nsm 1 (n+1)*ag (l.eraseIdx j) (n+1)=0;rw[hd (n+1) byO,mul_zero]
   rw[hz,oA];exact dd fun i _=>zero_mul _
  ·have:=lZ (nG l[j]) hdd x
   rw[wI,e,sub_self,zero_mul,show 1+(l.length-1-1)=l.length-1 by omega]at this;exact this
 rw[e3,zero_add];have e4:(fun i=>- (l[j]*ag (l.eraseIdx j) i))=fun i=>(- l[j])*ag (l.eraseIdx j) i:=by
  funext i;rw[neg_mul]
 rw[e4,wJ,neg_mul]
theorem Mm{S:Ser K}{r:Nat}(l:List (K×K))(hS:∀k,k<r->S k=gs l k)(hl:l.length<=r){j:Nat}(hj:j<l.length){x:K}(e:(l[j]).2*x=1) :
  hor (tab r (cv S (ag (xs l)))) x=(l[j]).1*pv (ag ((xs l).eraseIdx j)) (l.length-1) x:=by
 have e1:tab r (cv S (ag (xs l)))=tab r (om l):=aS fun k hk=>by
  rw[<-xI,dI];exact jb (fun _ _=>rfl) (fun i hi=>hS i byO)
 have hdo:dg (co (tab r (om l))) l.length:=by
  intro i hi;rw[cm];split
  ·exact mj l i byO
  ·rfl
 rw[e1,zW hdo,<-GU l j hj x e];unfold pv;refine ay fun i hi=>?_;rw[cm];split
 ·rfl
 ·rw[mj l i byO]
end
end Go.RS
namespace Go.RS
section
variable {K:Type}[Fd K]
def sel(φ:Nat->Bool)(n:Nat):List Nat:=(List.range n).filter φ
theorem bZ(φ:Nat->Bool)(n:Nat):sel φ (n+1)=sel φ n++(if φ n=true then[n] else[]):=by
 unfold sel;rw[List.range_succ,List.filter_append];congr 1;cases h:φ n<;>simp[h]
theorem dV{φ:Nat->Bool}{n i:Nat}:i ∈ sel φ n↔i<n/\φ i=true:=by simp[sel]
theorem jn(φ:Nat->Bool)(n:Nat):(sel φ n).Nodup:=List.nodup_range.sublist List.filter_sublist
theorem gD{φ ψ:Nat->Bool}{n:Nat}(h:∀i,i<n->φ i=ψ i):sel φ n=sel ψ n:=by
 unfold sel;apply List.filter_congr;intro i hi;exact h i (by simpa using hi)
def pr(X:Nat->K)(b:Nat)(ε:Nat->K)(l:List Nat):List (K×K):=l.map fun i=>(ε i*pw (X i) b,X i)
theorem yP(X:Nat->K)(b:Nat)(ε:Nat->K)(l:List Nat):xs (pr X b ε l)=l.map X:=by simp[xs,pr]
theorem nW(X:Nat->K)(b:Nat)(ε:Nat->K)(l:List Nat):(pr X b ε l).length=l.length:=by simp[pr]
theorem Mp(X:Nat->K)(b:Nat)(ε:Nat->K)(i k:Nat):gs (pr X b ε [i]) k=ε i*pw (X i) (b+k):=by
 show ε i*pw (X i) b*pw (X i) k+0=_;rw[add_zero,mul_assoc,<-eh]
theorem nP(X:Nat->K)(b:Nat)(ε:Nat->K)(l:List Nat)(i k:Nat):gs (pr X b ε (l++[i])) k=gs (pr X b ε l) k+ε i*pw (X i) (b+k):=by
 have:pr X b ε (l++[i])=pr X b ε l++pr X b ε [i]:=by simp[pr]
 rw[this,vN,Mp]
theorem B5{X:Nat->K}{b:Nat}{ε:Nat->K}{φ:Nat->Bool}:∀{n:Nat},(∀i,i<n->φ i=false->ε i=0)->∀k,sm n (fun i=>ε i*pw (X i) (b+k))=gs (pr X b ε (sel φ n)) k
 | 0,_,_=>rfl
 | n+1,h,k=>by
  rw[br,B5 (fun i hi=>h i byO),bZ];cases hφ:φ n with
  | true=>rw[if_pos rfl,nP]
  | false=>rw[if_neg (by simp),List.append_nil,h n byO hφ,zero_mul,add_zero]
theorem B9{X:Nat->K}{b:Nat}{ε:Nat->K}{φ ψ:Nat->Bool}:∀{n:Nat},(∀i,i<n->φ i=false->ψ i=false->ε i=0)->(∀i,i<n->φ i=true->ψ i=false)->∀k,sm n (fun i=>ε i*pw (X i) (b+k))=gs (pr X b ε (sel φ n)++pr X b ε (sel ψ n)) k
 | 0,_,_,_=>rfl
 | n+1,h,h',k=>by
  rw[vN,br,B9 (fun i hi=>h i byO) (fun i hi=>h' i byO),vN,bZ,bZ];cases hφ:φ n with
  | true=>
   rw[if_pos rfl,nP,h' n byO hφ,if_neg (by simp),List.append_nil];exact(show(((gs (pr X b ε (sel φ n)) k)+(gs (pr X b ε (sel ψ n)) k))+(ε n*pw (X n) (b+k)))=(((gs (pr X b ε (sel φ n)) k)+(ε n*pw (X n) (b+k)))+(gs (pr X b ε (sel ψ n)) k)) from bG [(gs (pr X b ε (sel φ n)) k),(gs (pr X b ε (sel ψ n)) k),(ε n*pw (X n) (b+k))] (.add (.add (.v 0) (.v 1)) (.v 2)) (.add (.add (.v 0) (.v 2)) (.v 1)) rfl)
  | false=>
   rw[if_neg (by simp),List.append_nil];cases hψ:ψ n with
   | true=>rw[if_pos rfl,nP,add_assoc]
   | false=>rw[if_neg (by simp),List.append_nil,h n byO hφ hψ,zero_mul,add_zero]
def gam(X:Nat->K)(er:Nat->Bool):Nat->Ser K
 | 0=>s1
 | i+1=>if er i=true then cv (lin (X i)) (gam X er i) else gam X er i
theorem vJ(X:Nat->K)(er:Nat->Bool):∀n,gam X er n=ag ((sel er n).map X)
 | 0=>rfl
 | n+1=>by
  rw[gam,bZ,vJ X er n];cases h:er n with
  | true=>rw[if_pos rfl,if_pos rfl,List.map_append,List.map_singleton,iS]
  | false=>rw[if_neg (by simp),if_neg (by simp),List.append_nil]
def isR(X:Nat->K)(er:Nat->Bool)(lam:List K)(i:Nat):Bool:=!er i&&decide (hor lam (inv (X i))=0)
def cG(X:Nat->K)(er:Nat->Bool)(lam:List K)(i:Nat):Bool:=er i || isR X er lam i
def xW(X:Nat->K)(b r:Nat)(S:Ser K)(P:List Nat)(i:Nat):K:=
 hor (tab r (cv S (ag (P.map X)))) (inv (X i))*inv (pw (X i) b*pv (ag ((P.filter fun k=>decide (k≠i)).map X)) (P.length-1) (inv (X i)))
structure Places (X:Nat->K)(n:Nat):Prop where
 ne:∀i,i<n->X i≠0
 inj:∀i j,i<n->j<n->X i=X j->i=j
theorem Places.nodup{X:Nat->K}{n:Nat}(h:Places X n){l:List Nat}(hl:l.Nodup)(hb:∀i ∈ l,i<n):(l.map X).Nodup:=by
 rw[List.nodup_iff_pairwise_ne,List.pairwise_map];refine List.Pairwise.imp_of_mem ?_ (List.nodup_iff_pairwise_ne.1 hl);intro a b ha hb' hne e;exact hne (h.inj a b (hb a ha) (hb b hb') e)
theorem F3{X:Nat->K}{n:Nat}(hX:Places X n){er:Nat->Bool}{lam:List K}(h1:co lam 0=1)(he:(sel (isR X er lam) n).length=lam.length-1):co lam=ag ((sel (isR X er lam) n).map X):=by
 have hb:∀i ∈ sel (isR X er lam) n,i<n:=fun i hi=>(dV.1 hi).1;have hn:=hX.nodup (jn (isR X er lam) n) hb;have hd:=Pq lam;obtain⟨q,hq,hC⟩:=mS ((sel (isR X er lam) n).map X) ((sel (isR X er lam) n).map fun i=>inv (X i)) (co lam) 0 (by simp) hn (fun i h h'=>by
   rw[List.getElem_map,List.getElem_map];exact eC (hX.ne _ (hb _ (List.getElem_mem _)))) (by rw[ay₀,Nat.add_zero,he];exact hd) (fun x hx=>by
   obtain⟨i,hi,rfl⟩:=List.mem_map.1 hx;rw[ay₀,Nat.add_zero,he,<-zW hd];have:=(dV.1 hi).2;simp only[isR,ac₀,af₀]at this;exact this.2)
 have hq0:q 0=1:=by rwa [hC,qX,mH,one_mul]at h1
 have hqs:q=s1:=by
  funext i;unfold s1;split
  ·rename_i h;rw[h];exact hq0
  ·exact hq i byO
 rw[hC,hqs,dI,iZ]
def oa(S Γ:Ser K)(s:Nat):Ser K:=fun k=>cv S Γ (s+k)
theorem y8{l:List K}{t:Nat}(h:co l t≠0)(hz:∀i,t<i->co l i=0):(trim l).length=t+1:=by
 have hne:trim l≠[]:=by
  intro e;have:=iA l t;rw[e]at this;exact h this.symm
 have htop:=oe l hne;have hpos:0<(trim l).length:=List.length_pos_iff.2 hne;have h1:(trim l).length-1<=t:=by
  apply Decidable.byContradiction;intro hc;exact htop (hz _ byO)
 have h2:t<(trim l).length:=by
  apply Decidable.byContradiction;intro hc;apply h;rw[<-iA,fY byO]
 omega
theorem tk(X:Nat->K):∀(P:List Nat) (j:Nat),(P.map X).eraseIdx j=(P.eraseIdx j).map X
 | [],_=>rfl
 | _::_,0=>rfl
 | a::P,j+1=>by
  show X a::(P.map X).eraseIdx j=X a::(P.eraseIdx j).map X;rw[tk X P j]
theorem erase_filter{P:List Nat}(hn:P.Nodup){j:Nat}(hj:j<P.length)(X:Nat->K):(P.map X).eraseIdx j=(P.filter fun k=>decide (k≠P[j])).map X:=by
 rw[tk];congr 1
 induction P generalizing j with
 | nil=>simp at hj
 | cons a P ih=>
  have hna:=(List.nodup_cons.1 hn).1;cases j with
  | zero=>
   show P=List.filter (fun k=>decide (k≠a)) (a::P);rw[List.filter_cons_of_neg (by simp)]
   symm
   rw[List.filter_eq_self];intro k hk;simp;intro e;exact hna (e▸hk)
  | succ j=>
   have hj':j<P.length:=by simpa using hj
   show a::P.eraseIdx j=List.filter (fun k=>decide (k≠P[j])) (a::P);rw[List.filter_cons_of_pos (by simp;intro e;exact hna (e▸List.getElem_mem _)),ih (List.nodup_cons.1 hn).2 hj']
theorem ID{X:Nat->K}{n r b:Nat}(hX:Places X n){er:Nat->Bool}{S:Ser K}{lam:List K}{N:Nat}(hlam:lam=trim (tab N (Reg.run (oa S (ag ((sel er n).map X)) (sel er n).length) (r-(sel er n).length)).C))(hN:∀i,N<=i->(Reg.run (oa S (ag ((sel er n).map X)) (sel er n).length) (r-(sel er n).length)).C i=0)
  (ε:Nat->K) (hS:∀k,k<r->S k=sm n (fun i=>ε i*pw (X i) (b+k))) (hfew:2*(sel (fun i=>!er i&&decide (ε i≠0)) n).length+(sel er n).length<=r) :
  (sel (isR X er lam) n).length=lam.length-1/\2*(lam.length-1)+(sel er n).length<=r/\(Reg.run (oa S (ag ((sel er n).map X)) (sel er n).length) (r-(sel er n).length)).L=lam.length-1/\(∀i,i<n->cG X er lam i=false->ε i=0)/\(∀i,i<n->cG X er lam i=true->xW X b r S (sel (cG X er lam) n) i=ε i):=by
 generalize hφ:(fun i=>!er i&&decide (ε i≠0))=φ at *;have hgs:∀k,k<r->S k=gs (pr X b ε (sel er n)++pr X b ε (sel φ n)) k:=by
  intro k hk;rw[hS k hk];refine B9 (fun i hi h1 h2=>?_) (fun i hi h=>?_) k
  ·rw[<-hφ]at h2
   simp only[h1,Bool.not_false,Bool.true_and,ai₀]at h2;exact Classical.not_not.1 h2
  ·rw[<-hφ];simp[h]
 have hlocs:=Iz (pr X b ε (sel er n)) (pr X b ε (sel φ n)) hgs (by
   intro a ha;rcases List.mem_append.1 ha with ha|ha
   ·obtain⟨i,hi,rfl⟩:=List.mem_map.1 ha
    exact hX.ne i (dV.1 hi).1
   ·obtain⟨i,hi,rfl⟩:=List.mem_map.1 ha
    exact hX.ne i (dV.1 hi).1) (by
   intro a ha;obtain⟨i,hi,rfl⟩:=List.mem_map.1 ha;have h2:=dV.1 hi;rw[<-hφ]at h2;simp only[ac₀,af₀]at h2;exact mul_ne_zero h2.2.2 (cJ (hX.ne i h2.1) _)) (by
   have e:xs (pr X b ε (sel er n)++pr X b ε (sel φ n))=(sel er n++sel φ n).map X:=by rw[List.map_append,<-yP X b ε,<-yP X b ε];exact List.map_append
   rw[e];refine hX.nodup (List.nodup_append.2 ⟨jn _ _,jn _ _,?_⟩) (fun i hi=>?_)
   ·intro i hi j hj e2
    have h2:=(dV.1 hi).2;have h3:=(dV.1 hj).2;rw[<-hφ,<-e2]at h3;simp[h2]at h3
   ·rcases List.mem_append.1 hi with h|h
    ·exact(dV.1 h).1
    ·exact(dV.1 h).1) (by rw[nW,nW];omega)
 rw[nW,nW,yP,yP]at hlocs;change (Reg.run (oa S (ag ((sel er n).map X)) (sel er n).length) (r-(sel er n).length)).C=_/\(Reg.run (oa S (ag ((sel er n).map X)) (sel er n).length) (r-(sel er n).length)).L=_ at hlocs;have hcoT:co (tab N (Reg.run (oa S (ag ((sel er n).map X)) (sel er n).length) (r-(sel er n).length)).C)=ag ((sel φ n).map X):=by
  rw[<-hlocs.1];funext i;rw[cm];split
  ·rfl
  ·exact(hN i byO).symm
 have hne:∀x ∈ (sel φ n).map X,x≠0:=by
  intro x hx;obtain⟨i,hi,rfl⟩:=List.mem_map.1 hx;exact hX.ne i (dV.1 hi).1
 have htop:=sA _ hne;have hdeg:=eJ ((sel φ n).map X);rw[ay₀]at htop hdeg;have hlen:lam.length=(sel φ n).length+1:=by
  rw[hlam];exact y8 (by rw[hcoT];exact htop) (by rw[hcoT];exact hdeg)
 have hco:co lam=ag ((sel φ n).map X):=by
  funext i;rw[hlam,iA,hcoT]
 have hdl:dg (co lam) (sel φ n).length:=by rw[hco];exact hdeg
 have hisR:∀i,i<n->isR X er lam i=φ i:=by
  intro i hi;have hφi:φ i=(!er i&&decide (ε i≠0)):=by rw[<-hφ]
  rw[hφi];unfold isR;cases her:er i with
  | true=>rfl
  | false=>
   simp only[Bool.not_false,Bool.true_and];have hv:hor lam (inv (X i))=pv (ag ((sel φ n).map X)) ((sel φ n).map X).length (inv (X i)):=by rw[zW hdl,hco,ay₀]
   by_cases hε:ε i≠0
   ·rw[decide_eq_true hε,hv,jS (X:=X i) (List.mem_map.2 ⟨i,dV.2 ⟨hi,by rw[<-hφ];simp[her,hε]⟩,rfl⟩) (eC (hX.ne i hi))]
    simp
   ·rw[decide_eq_false hε,hv]
    refine decide_eq_false (fP (X:=X i) (fun hm=>?_) (eC (hX.ne i hi)));obtain⟨j,hj,e⟩:=List.mem_map.1 hm;have hj2:=dV.1 hj;have:=hX.inj j i hj2.1 hi e;subst this;rw[<-hφ]at hj2;simp only[ac₀,af₀]at hj2;exact hε hj2.2.2
 have hsel:sel (isR X er lam) n=sel φ n:=gD hisR;have hboth:∀i,i<n->cG X er lam i=(er i || φ i):=fun i hi=>by unfold cG;rw[hisR i hi]
 refine⟨by rw[hsel];omega,byO,by rw[hlocs.2];omega,fun i hi h=>?_,fun i hi h=>?_⟩
 ·rw[hboth i hi,<-hφ]at h
  simp only[Bool.or_eq_false_iff,Bool.and_eq_false_iff,Bool.not_eq_false',ai₀]at h;rcases h with ⟨h1,h2|h2⟩
  ·rw[h1]at h2;cases h2
  ·exact Classical.not_not.1 h2
 ·have hPn:=jn (cG X er lam) n
  have hPl:(sel (cG X er lam) n).length<=r:=by
   have key:∀m,m<=n->(sel (cG X er lam) m).length<=(sel er m).length+(sel φ m).length:=by
    intro m
    induction m with
    | zero=>intro _;simp[sel]
    | succ m ih=>
     intro hm;have:=ih byO;rw[bZ,bZ,bZ,as₀,as₀,as₀,hboth m byO];cases er m<;>cases φ m<;>simp<;>omega
   have:=key n (Nat.le_refl _);omega
  obtain⟨j,hj,hji⟩:=List.getElem_of_mem (dV.2 ⟨hi,h⟩);have hj':j<(pr X b ε (sel (cG X er lam) n)).length:=by rw[nW];exact hj
  have hpj:(pr X b ε (sel (cG X er lam) n))[j]=(ε i*pw (X i) b,X i):=by simp[pr,hji]
  have hSP:∀k,k<r->S k=gs (pr X b ε (sel (cG X er lam) n)) k:=by
   intro k hk;rw[hS k hk];refine B5 (fun i hi h=>?_) k;rw[hboth i hi,<-hφ]at h;simp only[Bool.or_eq_false_iff,Bool.and_eq_false_iff,Bool.not_eq_false',ai₀]at h;rcases h with ⟨h1,h2|h2⟩
   ·rw[h1]at h2;cases h2
   ·exact Classical.not_not.1 h2
  have hXi:=hX.ne i hi;have hf:=Mm (pr X b ε (sel (cG X er lam) n)) hSP (by rw[nW];exact hPl) hj' (x:=inv (X i)) (by rw[hpj];exact eC hXi);rw[yP,nW,hpj,erase_filter hPn hj]at hf;unfold xW;rw[hf];simp only[hji];have hden:pv (ag (((sel (cG X er lam) n).filter fun k=>decide (k≠i)).map X)) ((sel (cG X er lam) n).length-1) (inv (X i))≠0:=by
   have hlen2:(((sel (cG X er lam) n).filter fun k=>decide (k≠i)).map X).length=(sel (cG X er lam) n).length-1:=by
    have:=congrArg List.length (erase_filter hPn hj X);rw[List.length_eraseIdx_of_lt (by simpa using hj),ay₀]at this;rw[<-hji];exact this.symm
   rw[<-hlen2];refine fP (X:=X i) (fun hm=>?_) (eC hXi);obtain⟨k,hk,e⟩:=List.mem_map.1 hm;have hk2:=List.mem_filter.1 hk;have:=hX.inj k i (dV.1 hk2.1).1 hi e;simp[this]at hk2
  generalize pv (ag (((sel (cG X er lam) n).filter fun k=>decide (k≠i)).map X)) ((sel (cG X er lam) n).length-1) (inv (X i))=D at *;have hXb:=cJ hXi b;rw[mul_assoc (ε i),mul_assoc (ε i),eC (mul_ne_zero hXb hden),mul_one]
end
end Go.RS
namespace Go.RS
section
variable {K:Type}[Fd K]
def plc(g:K)(n i:Nat):K:=pw g (n-1-i)
theorem nU{g:K}{n m:Nat}(hg:g≠0)(h:Ord g m)(hn:n<=m):Places (plc g n) n where
 ne:=fun i _=>cJ hg _
 inj:=fun i j hi hj e=>by
  have:=sU hg h (n-1-i) (n-1-j) byO byO e;omega
theorem xh(g:K)(w:List K)(m:Nat):dJ w (pw g m)=sm w.length (fun i=>co w i*pw (plc g w.length i) m):=by
 rw[Al];refine ay fun i _=>?_;unfold plc;rw[<-nX,<-nX,bb₀]
def syS(g:K)(r b:Nat)(w:List K):Ser K:=co (tab r (fun i=>dJ w (pw g (b+i))))
theorem Oe{g:K}{r b k:Nat}(w:List K)(hk:k<r):syS g r b w k=dJ w (pw g (b+k)):=by
 unfold syS;rw[cm,if_pos hk]
def sC(er:Nat->Bool)(n:Nat):Nat:=(sel er n).length
def nA(X:Nat->K)(er:Nat->Bool)(n r:Nat)(S:Ser K):List K:=(tab r (cv S (gam X er n))).drop (sC er n)
theorem Hr(l:List K)(s k:Nat):co (l.drop s) k=co l (s+k):=by
 unfold co;rw[au₀,au₀,List.getElem?_drop]
theorem pZ(X:Nat->K)(er:Nat->Bool)(n r:Nat)(S:Ser K):(nA X er n r S).length=r-sC er n:=by
 unfold nA;rw[List.length_drop,aK]
theorem sv(X:Nat->K)(er:Nat->Bool)(n r:Nat)(S:Ser K):Reg.run (co (nA X er n r S)) (nA X er n r S).length=Reg.run (oa S (ag ((sel er n).map X)) (sel er n).length) (r-(sel er n).length):=by
 rw[pZ];refine uW fun k hk=>?_;unfold nA oa;rw[Hr,cm,if_pos (by unfold sC at hk ⊢;omega),vJ];rfl
def NG(s:List K):List K:=trim (tab (bml (co s) s.length).1 (Reg.run (co s) s.length).C)
def eO(X:Nat->K)(er:Nat->Bool)(n r:Nat)(S:Ser K):List K:=NG (nA X er n r S)
theorem M6(X:Nat->K)(er:Nat->Bool)(n r:Nat)(S:Ser K):co (eO X er n r S)=(Reg.run (oa S (ag ((sel er n).map X)) (sel er n).length) (r-(sel er n).length)).C:=by
 funext i;unfold eO NG;rw[iA,cm,<-sv];split
 ·rfl
 ·exact((qn _ _).1 i byO).symm
theorem vU(X:Nat->K)(er:Nat->Bool)(n r:Nat)(S:Ser K):co (eO X er n r S) 0=1:=by
 rw[M6];exact(l7 _ _).gen.one
def mb(g:K)(r b:Nat)(w:List K)(er:Nat->Bool):List K:=
 let X:=plc g w.length
 let S:=syS g r b w
 let lam:=eO X er w.length r S
 tab w.length (fun i=>if cG X er lam i=true then co w i-xW X b r S (sel (cG X er lam) w.length) i else co w i)
theorem lM(g:K)(r b:Nat)(w:List K)(er:Nat->Bool):(mb g r b w er).length=w.length:=aK _ _
def C2(g:K)(r b:Nat)(w:List K):Prop:=∀k,k<r->dJ w (pw g (b+k))=0
structure DecOK (g:K)(r b:Nat)(w:List K)(er:Nat->Bool):Prop where
 few:sC er w.length<=r
 cap:2*((eO (plc g w.length) er w.length r (syS g r b w)).length-1)+sC er w.length<=r
 num:(sel (isR (plc g w.length) er (eO (plc g w.length) er w.length r (syS g r b w))) w.length).length=(eO (plc g w.length) er w.length r (syS g r b w)).length-1
 cw:C2 g r b (mb g r b w er)
theorem CW(g:K){w c:List K}(hl:c.length=w.length)(m:Nat):sm w.length (fun i=>(co w i-co c i)*pw (plc g w.length i) m)=dJ w (pw g m)-dJ c (pw g m):=by
 rw[xh,xh,hl,sub_def,wX,<-n6];refine ay fun i _=>?_;exact(show(((co w i)-(co c i))*(pw (plc g w.length i) m))=(((co w i)*(pw (plc g w.length i) m))+(-((co c i)*(pw (plc g w.length i) m)))) from bG [(co w i),(co c i),(pw (plc g w.length i) m)] (.mul (.add (.v 0) (.neg (.v 1))) (.v 2)) (.add (.mul (.v 0) (.v 2)) (.neg (.mul (.v 1) (.v 2)))) rfl)
theorem zl{g:K}{r b m:Nat}{w c:List K}{er:Nat->Bool}(hg:g≠0)(ho:Ord g m)(hn:w.length<=m)(hl:c.length=w.length)(hc:C2 g r b c)
  (hfew:2*(sel (fun i=>!er i&&decide (co w i≠co c i)) w.length).length+sC er w.length<=r):DecOK g r b w er/\mb g r b w er=c:=by
 have hS:∀k,k<r->syS g r b w k=sm w.length (fun i=>(co w i-co c i)*pw (plc g w.length i) (b+k)):=by
  intro k hk;rw[CW g hl,hc k hk,Oe w hk];exact(show(dJ w (pw g (b+k)))=((dJ w (pw g (b+k)))-0) from bG [(dJ w (pw g (b+k)))] (.v 0) (.add (.v 0) (.neg .zero)) rfl)
 have hsub:∀i,(co w i-co c i≠0)↔co w i≠co c i:=fun i=>⟨fun h e=>h (by rw[e,sub_self]),fun h e=>h (sub_eq_zero e)⟩;have hd:=ID (b:=b) (nU hg ho hn) (er:=er) (S:=syS g r b w) (lam:=eO (plc g w.length) er w.length r (syS g r b w)) (N:=(bml (co (nA (plc g w.length) er w.length r (syS g r b w))) (nA (plc g w.length) er w.length r (syS g r b w)).length).1) (by unfold eO NG;rw[sv]) (fun i hi=>by rw[<-sv];exact(qn _ _).1 i hi)
  (fun i=>co w i-co c i) hS (by
   have e:sel (fun i=>!er i&&decide (co w i-co c i≠0)) w.length=sel (fun i=>!er i&&decide (co w i≠co c i)) w.length:=gD fun i _=>by
    congr 1;exact decide_eq_decide.2 (hsub i)
   rw[e];exact hfew)
 have hfix:mb g r b w er=c:=by
  refine(Av (by rw[hl,lM]) fun i hi=>?_);rw[lM]at hi;unfold mb;rw[cm,if_pos hi];split
  ·rename_i hb
   rw[hd.2.2.2.2 i hi hb];exact(show((co w i)-((co w i)-(co c i)))=(co c i) from bG [(co w i),(co c i)] (.add (.v 0) (.neg (.add (.v 0) (.neg (.v 1))))) (.v 1) rfl)
  ·rename_i hb
   have:=hd.2.2.2.1 i hi (by simpa using hb);exact sub_eq_zero this
 refine⟨⟨byO,hd.2.1,hd.1,by rw[hfix];exact hc⟩,hfix⟩
theorem xm{X:Nat->K}{φ ψ:Nat->Bool}:∀{n:Nat},(∀i,i<n->ψ i=true->φ i=false)->cv (ag ((sel φ n).map X)) (ag ((sel ψ n).map X))=ag ((sel (fun i=>φ i || ψ i) n).map X)
 | 0,_=>iZ _
 | n+1,h=>by
  have ih:=xm (X:=X) (φ:=φ) (ψ:=ψ) (n:=n) (fun i hi=>h i byO);rw[bZ,bZ,bZ,List.map_append,List.map_append,List.map_append];cases hψ:ψ n with
  | true=>
   rw[h n byO hψ];simp only[Bool.false_or,if_true,ah₀,if_false,al₀,List.append_nil,ag₀];rw[iS,iS,<-ih,<-dN,<-dN,dI _ (lin (X n))]
  | false=>
   cases hφ:φ n with
   | true=>
    simp only[Bool.or_false,if_true,ah₀,if_false,al₀,List.append_nil,ag₀];rw[iS,iS,<-ih,dN]
   | false=>
    simp only[Bool.or_false,ah₀,if_false,al₀,List.append_nil];exact ih
theorem Bv{X:Nat->K}{n r:Nat}(hX:Places X n){er:Nat->Bool}{S:Ser K}(hnum:(sel (isR X er (eO X er n r S)) n).length=(eO X er n r S).length-1):cv (gam X er n) (co (eO X er n r S))=ag ((sel (cG X er (eO X er n r S)) n).map X):=by
 rw[vJ,F3 hX (vU _ _ _ _ _) hnum];refine xm fun i _ h=>?_;unfold isR at h;simp only[ac₀,Bool.not_eq_true']at h;exact h.1
theorem Dm{X:Nat->K}{n:Nat}{er:Nat->Bool}{lam:List K}:(sel (cG X er lam) n).length=(sel er n).length+(sel (isR X er lam) n).length:=by
 induction n with
 | zero=>rfl
 | succ n ih=>
  rw[bZ,bZ,bZ,as₀,as₀,as₀,ih];unfold cG isR;cases er n<;>cases decide (hor lam (inv (X n))=0)<;>simp<;>omega
theorem Gt{X:Nat->K}{n:Nat}(hX:Places X n){P:List Nat}(hP:P.Nodup)(hb:∀i ∈ P,i<n){i:Nat}(hi:i ∈ P):pv (der (ag (P.map X))) (P.length-1) (inv (X i))=- (X i*pv (ag ((P.filter fun k=>decide (k≠i)).map X)) (P.length-1) (inv (X i)))/\pv (ag ((P.filter fun k=>decide (k≠i)).map X)) (P.length-1) (inv (X i))≠0:=by
 obtain⟨j,hj,hji⟩:=List.getElem_of_mem hi;have hXi:=hX.ne i (hb i hi);have hlt:j<(P.map X).length:=by simpa using hj
 have hd:=E5 (l:=P.map X) (j:=j) hlt (x:=inv (X i)) (by rw[List.getElem_map,hji];exact eC hXi);rw[List.getElem_map,erase_filter hP hj,hji,ay₀]at hd;refine⟨hd,?_⟩;have hlen2:((P.filter fun k=>decide (k≠i)).map X).length=P.length-1:=by
  have:=congrArg List.length (erase_filter hP hj X);rw[List.length_eraseIdx_of_lt (by simpa using hj),ay₀]at this;rw[<-hji];exact this.symm
 rw[<-hlen2];refine fP (X:=X i) (fun hm=>?_) (eC hXi);obtain⟨k,hk,e⟩:=List.mem_map.1 hm;have hk2:=List.mem_filter.1 hk;have:=hX.inj k i (hb k hk2.1) (hb i hi) e;simp[this]at hk2
theorem Rk{g:K}{m n b r i:Nat}(hg:g≠0)(ho:Ord g m)(hn:n<=m){S:Ser K}{P:List Nat}(hP:P.Nodup)(hb:∀i ∈ P,i<n)(hi:i ∈ P) :
  pw g ((n-1-i)*(b+(m-1)))*pv (der (ag (P.map (plc g n)))) (P.length-1) (inv (plc g n i))≠0 /\
  hor (tab r (cv S (ag (P.map (plc g n))))) (inv (plc g n i))*inv (pw g ((n-1-i)*(b+(m-1)))*pv (der (ag (P.map (plc g n)))) (P.length-1) (inv (plc g n i)))=- xW (plc g n) b r S P i:=by
 have hX:=nU hg ho hn;obtain⟨h1,h2⟩:=Gt hX hP hb hi;have hXi:=hX.ne i (hb i hi);have hpw:pw (plc g n i) (m-1)*plc g n i=1:=by
  rw[<-fi,Nat.sub_add_cancel ho.1];unfold plc;rw[<-nX,bb₀,nX,ho.2.1,vy]
 have hfac:pw g ((n-1-i)*(b+(m-1)))=pw (plc g n i) b*pw (plc g n i) (m-1):=by
  rw[nX,eh];rfl
 have hdv:pw g ((n-1-i)*(b+(m-1)))*pv (der (ag (P.map (plc g n)))) (P.length-1) (inv (plc g n i))=- (pw (plc g n i) b*pv (ag ((P.filter fun k=>decide (k≠i)).map (plc g n))) (P.length-1) (inv (plc g n i))):=by
  rw[h1,hfac];generalize pv (ag ((P.filter fun k=>decide (k≠i)).map (plc g n))) (P.length-1) (inv (plc g n i))=D;have e:pw (plc g n i) b*pw (plc g n i) (m-1)*-(plc g n i*D)=-(pw (plc g n i) b*D*(pw (plc g n i) (m-1)*plc g n i)):=(show(((pw (plc g n i) b)*(pw (plc g n i) (m-1)))*(-((plc g n i)*(D))))=(-(((pw (plc g n i) b)*(D))*((pw (plc g n i) (m-1))*(plc g n i)))) from bG [(pw (plc g n i) b),(pw (plc g n i) (m-1)),(plc g n i),(D)] (.mul (.mul (.v 0) (.v 1)) (.neg (.mul (.v 2) (.v 3)))) (.neg (.mul (.mul (.v 0) (.v 3)) (.mul (.v 1) (.v 2)))) rfl);rw[e,hpw,mul_one]
 rw[hdv];unfold xW;have hne:=mul_ne_zero (cJ hXi b) h2;generalize pw (plc g n i) b*pv (ag ((P.filter fun k=>decide (k≠i)).map (plc g n))) (P.length-1) (inv (plc g n i))=E at *;refine⟨neg_ne_zero hne,?_⟩;have hi2:inv (-E)=- inv E:=pG (by rw[neg_mul,mul_neg,neg_neg,eC hne]);rw[hi2,mul_neg]
theorem zX{M:Nat}(F:Ser K)(x:K)(h:1<=M):hor (tab M F) x=pv F (M-1) x:=by
 rw[vQ,aK];unfold pv;rw[Nat.sub_add_cancel h];refine ay fun i hi=>?_;rw[cm,if_pos hi]
end
end Go.RS
namespace Go.RS
def f7:FD:=⟨7,0⟩
theorem pr7:Pr 7:=⟨by decide,fun d h1 h2=>by
 have:d=2\/d=3\/d=4\/d=5\/d=6:=byO;rcases this with rfl|rfl|rfl|rfl|rfl<;>decide⟩
instance ok7:OkC f7:=⟨.inl ⟨rfl,by decide,by decide,pr7⟩⟩
def e7(n:Nat)(h:n<7:=by decide):El f7:=⟨n,h⟩
end Go.RS
