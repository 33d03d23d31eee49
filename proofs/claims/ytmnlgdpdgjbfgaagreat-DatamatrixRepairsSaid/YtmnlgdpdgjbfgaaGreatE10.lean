/- Lemmas. -/
import Derived.KernelRfl
set_option linter.unusedVariables false
set_option linter.unusedSimpArgs false
set_option linter.unusedSectionVars false
namespace Go.RS
class Fd (K:Type) where
 add:K→K→K
 mul:K→K→K
 neg:K→K
 zero:K
 one:K
 inv:K→K
 add_assoc':∀a b c,add (add a b) c=add a (add b c)
 add_comm':∀a b,add a b=add b a
 add_zero':∀a,add a zero=a
 add_neg':∀a,add a (neg a)=zero
 mul_assoc':∀a b c,mul (mul a b) c=mul a (mul b c)
 mul_comm':∀a b,mul a b=mul b a
 mul_one':∀a,mul a one=a
 mul_add':∀a b c,mul a (add b c)=add (mul a b) (mul a c)
 mul_inv':∀a,a≠zero→mul a (inv a)=one
 one_ne':one≠zero
 dec:DecidableEq K
section
variable {K:Type}[Fd K]
instance (priority:=50):Add K:=⟨Fd.add⟩
instance (priority:=50):Mul K:=⟨Fd.mul⟩
instance (priority:=50):Neg K:=⟨Fd.neg⟩
instance (priority:=50):Sub K:=⟨fun a b=>Fd.add a (Fd.neg b)⟩
instance (priority:=50):OfNat K 0:=⟨Fd.zero⟩
instance (priority:=50):OfNat K 1:=⟨Fd.one⟩
instance (priority:=50):DecidableEq K:=Fd.dec
def inv(a:K):K:=Fd.inv a
theorem add_assoc(a b c:K):a+b+c=a+(b+c):=Fd.add_assoc' a b c
theorem add_comm(a b:K):a+b=b+a:=Fd.add_comm' a b
theorem add_zero(a:K):a+0=a:=Fd.add_zero' a
theorem zero_add(a:K):0+a=a:=by rw[add_comm,add_zero]
theorem add_neg(a:K):a+-a=0:=Fd.add_neg' a
theorem kD(a:K):-a+a=0:=by rw[add_comm,add_neg]
theorem sub_def(a b:K):a-b=a+-b:=rfl
theorem mul_assoc(a b c:K):a*b*c=a*(b*c):=Fd.mul_assoc' a b c
theorem mul_comm(a b:K):a*b=b*a:=Fd.mul_comm' a b
theorem mul_one(a:K):a*1=a:=Fd.mul_one' a
theorem one_mul(a:K):1*a=a:=by rw[mul_comm,mul_one]
theorem mul_add(a b c:K):a*(b+c)=a*b+a*c:=Fd.mul_add' a b c
theorem add_mul(a b c:K):(a+b)*c=a*c+b*c:=by rw[mul_comm,mul_add,mul_comm c a,mul_comm c b]
theorem dr{a:K}(h:a≠0):a*inv a=1:=Fd.mul_inv' a h
theorem inv_mul{a:K}(h:a≠0):inv a*a=1:=by rw[mul_comm,dr h]
theorem gM:(1:K)≠0:=Fd.one_ne'
theorem add_left_cancel{a b c:K}(h:a+b=a+c):b=c:=by
 have:-a+(a+b)=-a+(a+c):=by rw[h]
 rwa [←add_assoc,←add_assoc,kD,zero_add,zero_add]at this
theorem mul_zero(a:K):a*0=0:=by
 have:a*0+a*0=a*0+0:=by rw[←mul_add,add_zero,add_zero]
 exact add_left_cancel this
theorem zero_mul(a:K):0*a=0:=by rw[mul_comm,mul_zero]
theorem gf{a b:K}(h:a+b=0):-a=b:=by
 apply add_left_cancel (a:=a)
 rw[add_neg,h]
theorem neg_mul(a b:K):-a*b=-(a*b):=by
 symm;apply gf;rw[←add_mul,add_neg,zero_mul]
theorem mul_neg(a b:K):a*-b=-(a*b):=by rw[mul_comm,neg_mul,mul_comm]
theorem neg_neg(a:K):- -a=a:=gf (kD a)
theorem neg_zero:-(0:K)=0:=gf (add_zero 0)
theorem neg_add(a b:K):-(a+b)=-a+-b:=by
 apply gf
 rw[add_assoc,←add_assoc b,add_comm b,add_assoc (-a),add_neg,add_zero,add_neg]
theorem sub_self(a:K):a-a=0:=add_neg a
theorem sub_eq_zero{a b:K}(h:a-b=0):a=b:=by
 have:a-b+b=0+b:=by rw[h]
 rwa [sub_def,add_assoc,kD,add_zero,zero_add]at this
theorem mul_eq_zero{a b:K}(h:a*b=0):a=0∨b=0:=by
 by_cases ha:a=0
 ·exact .inl ha
 ·right
  have:inv a*(a*b)=inv a*0:=by rw[h]
  rwa [←mul_assoc,inv_mul ha,one_mul,mul_zero]at this
theorem mul_ne_zero{a b:K}(ha:a≠0)(hb:b≠0):a*b≠0:=fun h=>(mul_eq_zero h).elim ha hb
theorem mul_left_cancel{a b c:K}(ha:a≠0)(h:a*b=a*c):b=c:=by
 have:inv a*(a*b)=inv a*(a*c):=by rw[h]
 rwa [←mul_assoc,←mul_assoc,inv_mul ha,one_mul,one_mul]at this
theorem lH{a b:K}(h:a*b=1):inv a=b:=by
 have ha:a≠0:=by rintro rfl;rw[zero_mul]at h;exact gM h.symm
 apply mul_left_cancel ha
 rw[dr ha,h]
theorem inv_inv{a:K}(ha:a≠0):inv (inv a)=a:=lH (inv_mul ha)
theorem neg_ne_zero{a:K}(h:a≠0):-a≠0:=fun e=>h (by rw[←neg_neg a,e,neg_zero])
def pw(a:K):Nat→K
 | 0=>1
 | n+1=>pw a n*a
theorem eK(a:K):pw a 0=1:=rfl
theorem dq(a:K)(n:Nat):pw a (n+1)=pw a n*a:=rfl
theorem mP(a:K):pw a 1=a:=by rw[dq,eK,one_mul]
theorem eU(a:K)(m:Nat):∀n,pw a (m+n)=pw a m*pw a n
 | 0=>by rw[eK,mul_one];rfl
 | n+1=>by rw[←Nat.add_assoc,dq,eU a m n,dq,mul_assoc]
theorem dW(a:K)(m:Nat):∀n,pw a (m*n)=pw (pw a m) n
 | 0=>rfl
 | n+1=>by rw[Nat.mul_succ,eU,dW a m n,dq]
theorem gO:∀n,pw (1:K) n=1
 | 0=>rfl
 | n+1=>by rw[dq,gO n,mul_one]
theorem oP(a b:K):∀n,pw (a*b) n=pw a n*pw b n
 | 0=>by rw[eK,eK,eK,mul_one]
 | n+1=>by rw[dq,dq,dq,oP a b n,mul_assoc,mul_assoc,←mul_assoc (pw b n) a b,mul_comm (pw b n) a,mul_assoc a]
theorem bL{a:K}(h:a≠0):∀n,pw a n≠0
 | 0=>gM
 | n+1=>mul_ne_zero (bL h n) h
end
inductive RE where
 | v (n:Nat)
 | zero
 | one
 | add (a b:RE)
 | mul (a b:RE)
 | neg (a:RE)
abbrev lV:=List Nat
abbrev Pol:=List (Int×lV)
def Ah:lV→lV→Ordering
 | [],[]=>.eq
 | [],_=>.lt
 | _,[]=>.gt
 | a::x,b::y=>if a<b then .lt else if b<a then .gt else Ah x y
def BL(a:Nat):lV→lV
 | []=>[a]
 | b::y=>if a≤b then a::b::y else b::BL a y
def EI:lV→lV→lV
 | [],y=>y
 | a::x,y=>BL a (EI x y)
def oX(c:Int)(m:lV):Pol→Pol
 | []=>if c=0 then[] else[(c,m)]
 | (d,n)::r=>match Ah m n with
  | .lt=>if c=0 then(d,n)::r else(c,m)::(d,n)::r
  | .eq=>if c+d=0 then r else(c+d,n)::r
  | .gt=>(d,n)::oX c m r
def Ae:Pol→Pol→Pol
 | [],q=>q
 | (c,m)::p,q=>oX c m (Ae p q)
def sB(c:Int)(m:lV):Pol→Pol
 | []=>[]
 | (d,n)::r=>oX (c*d) (EI m n) (sB c m r)
def Cc:Pol→Pol→Pol
 | [],_=>[]
 | (c,m)::p,q=>Ae (sB c m q) (Cc p q)
def RE.norm:RE→Pol
 | .v n=>[(1,[n])]
 | .zero=>[]
 | .one=>[(1,[])]
 | .add a b=>Ae a.norm b.norm
 | .mul a b=>Cc a.norm b.norm
 | .neg a=>sB (-1) [] a.norm
section
variable {K:Type}[Fd K]
def RE.den(env:List K):RE→K
 | .v n=>env.getD n 0
 | .zero=>0
 | .one=>1
 | .add a b=>a.den env+b.den env
 | .mul a b=>a.den env*b.den env
 | .neg a=>- a.den env
def nsm(a:K):Nat→K
 | 0=>0
 | n+1=>nsm a n+a
def ism(a:K):Int→K
 | .ofNat n=>nsm a n
 | .negSucc n=>- nsm a (n+1)
theorem mq(a:K)(m:Nat):∀n,nsm a (m+n)=nsm a m+nsm a n
 | 0=>by rw[show nsm a 0=0 from rfl,add_zero];rfl
 | n+1=>by rw[←Nat.add_assoc,show nsm a (m+n+1)=nsm a (m+n)+a from rfl,mq a m n,add_assoc];rfl
theorem AZ(a:K)(m n:Nat):ism a (Int.subNatNat m n)=nsm a m+- nsm a n:=by
 rcases Nat.lt_or_ge m n with h|h
 ·obtain⟨k,rfl⟩:∃k,n=m+k+1:=⟨n-m-1,by omega⟩
  rw[Int.subNatNat_of_lt (by omega),show m+k+1-m=k+1 by omega]
  show-nsm a (k+1)=_
  rw[Nat.add_assoc,mq a m (k+1),neg_add,←add_assoc,add_neg,zero_add]
 ·obtain⟨k,rfl⟩:∃k,m=n+k:=⟨m-n,by omega⟩
  rw[Int.subNatNat_of_le (by omega),show n+k-n=k by omega]
  show nsm a k=_
  rw[mq,add_comm (nsm a n),add_assoc,add_neg,add_zero]
theorem ta(a:K)(m n:Int):ism a (m+n)=ism a m+ism a n:=by
 cases m with
 | ofNat m=>
  cases n with
  | ofNat n=>exact mq a m n
  | negSucc n=>exact AZ a m (n+1)
 | negSucc m=>
  cases n with
  | ofNat n=>rw[add_comm];exact AZ a n (m+1)
  | negSucc n=>
   show-nsm a (m+n+1+1)=- nsm a (m+1)+- nsm a (n+1)
   rw[←neg_add,←mq,show m+n+1+1=m+1+(n+1) by omega]
theorem ku(a:K):ism a 0=0:=rfl
theorem tp(a:K):ism a 1=a:=zero_add a
theorem AA(a:K)(n:Int):ism a (-n)=- ism a n:=by
 symm;apply gf
 rw[←ta,show n+-n=0 by omega,ku]
theorem tA(a b:K):∀n,nsm (a*b) n=nsm a n*b
 | 0=>by rw[show nsm (a*b) 0=0 from rfl,show nsm a 0=0 from rfl,zero_mul]
 | n+1=>by rw[show nsm (a*b) (n+1)=nsm (a*b) n+a*b from rfl,tA a b n,←add_mul];rfl
theorem zx(a b:K)(n:Int):ism (a*b) n=ism a n*b:=by
 cases n with
 | ofNat n=>exact tA a b n
 | negSucc n=>show-nsm (a*b) (n+1)=- nsm a (n+1)*b;rw[tA,neg_mul]
theorem ko(a:K)(m:Int):∀n:Nat,ism a (m*n)=nsm (ism a m) n
 | 0=>by rw[show m*((0:Nat):Int)=0 by simp,ku];rfl
 | n+1=>by rw[show m*((n+1:Nat):Int)=m*n+m by rw[Int.natCast_add,Int.mul_add];simp,ta,ko a m n];rfl
theorem HI(a:K)(m n:Int):ism a (m*n)=ism (ism a m) n:=by
 cases n with
 | ofNat n=>exact ko a m n
 | negSucc n=>
  rw[show m*Int.negSucc n=-(m*((n+1:Nat):Int)) by rw[←Int.mul_neg];rfl,AA,ko];rfl
theorem sf(a b:K)(m n:Int):ism (a*b) (m*n)=ism a m*ism b n:=by
 rw[HI,zx,mul_comm (ism a m),zx,mul_comm]
def lr(env:List K):lV→K
 | []=>1
 | a::x=>env.getD a 0*lr env x
def jj(env:List K):Pol→K
 | []=>0
 | (c,m)::r=>ism (lr env m) c+jj env r
theorem A0:∀(x y:lV),Ah x y=.eq→x=y
 | [],[],_=>rfl
 | [],_::_,h=>by simp[Ah]at h
 | _::_,[],h=>by simp[Ah]at h
 | a::x,b::y,h=>by
  simp only[Ah]at h
  split at h
  ·cases h
  ·split at h
   ·cases h
   ·rw[A0 x y h,show a=b by omega]
theorem wT(env:List K)(a:Nat):∀(y:lV),lr env (BL a y)=env.getD a 0*lr env y
 | []=>rfl
 | b::y=>by
  rw[BL]
  split
  ·rfl
  ·rw[show lr env (b::BL a y)=env.getD b 0*lr env (BL a y) from rfl,wT env a y,←mul_assoc,mul_comm (env.getD b 0),mul_assoc];rfl
theorem xB(env:List K):∀(x y:lV),lr env (EI x y)=lr env x*lr env y
 | [],y=>by rw[EI,show lr env []=1 from rfl,one_mul]
 | a::x,y=>by rw[EI,wT,xB env x y,←mul_assoc];rfl
theorem nu(env:List K)(c:Int)(m:lV):∀p,jj env (oX c m p)=ism (lr env m) c+jj env p
 | []=>by
  rw[oX]
  split
  ·rename_i h;subst h;rw[ku,zero_add]
  ·rfl
 | (d,n)::r=>by
  rw[oX]
  split
  ·split
   ·rename_i h;subst h;rw[ku,zero_add]
   ·rfl
  ·rename_i h
   have:=A0 _ _ h
   subst this
   rw[show jj env ((d,m)::r)=ism (lr env m) d+jj env r from rfl,←add_assoc,←ta]
   split
   ·rename_i h;rw[h,ku,zero_add]
   ·rfl
  ·rw[show jj env ((d,n)::oX c m r)=ism (lr env n) d+jj env (oX c m r) from rfl,nu env c m r,←add_assoc,add_comm (ism (lr env n) d),add_assoc];rfl
theorem pR(env:List K):∀p q,jj env (Ae p q)=jj env p+jj env q
 | [],q=>by rw[Ae,show jj env []=0 from rfl,zero_add]
 | (c,m)::p,q=>by rw[Ae,nu,pR env p q,←add_assoc];rfl
theorem ni(env:List K)(c:Int)(m:lV):∀p,jj env (sB c m p)=ism (lr env m) c*jj env p
 | []=>by rw[sB,show jj env []=0 from rfl,mul_zero]
 | (d,n)::r=>by rw[sB,nu,ni env c m r,xB,sf,←mul_add];rfl
theorem wq(env:List K):∀p q,jj env (Cc p q)=jj env p*jj env q
 | [],q=>by rw[Cc,show jj env []=0 from rfl,zero_mul]
 | (c,m)::p,q=>by rw[Cc,pR,ni,wq env p q,←add_mul];rfl
theorem RE.norm_den(env:List K):∀e:RE,jj env e.norm=e.den env
 | .v n=>by
  show ism (env.getD n 0*1) 1+0=env.getD n 0
  rw[add_zero,tp,mul_one]
 | .zero=>rfl
 | .one=>by
  show ism (1:K) 1+0=1
  rw[add_zero,tp]
 | .add a b=>by rw[RE.norm,pR,RE.norm_den env a,RE.norm_den env b];rfl
 | .mul a b=>by rw[RE.norm,wq,RE.norm_den env a,RE.norm_den env b];rfl
 | .neg a=>by
  rw[RE.norm,ni,RE.norm_den env a]
  show ism (1:K) (-1)*_=- _
  rw[AA,tp,neg_mul,one_mul]
def sU:Pol→Pol→Bool
 | [],[]=>true
 | (c,m)::p,(d,n)::q=>c==d&&m==n&&sU p q
 | _,_=>false
theorem vJ:∀p q,sU p q=true→p=q
 | [],[],_=>rfl
 | [],_::_,h=>by simp[sU]at h
 | _::_,[],h=>by simp[sU]at h
 | (c,m)::p,(d,n)::q,h=>by
  simp only[sU,Bool.and_eq_true,beq_iff_eq]at h
  rw[h.1.1,h.1.2,vJ p q h.2]
theorem aj(env:List K)(a b:RE)(h:sU a.norm b.norm=true):a.den env=b.den env:=by
 rw[←RE.norm_den,←RE.norm_den,vJ _ _ h]
end
end Go.RS
namespace Go.RS
section
variable {K:Type}[Fd K]
def sm:Nat→(Nat→K)→K
 | 0,_=>0
 | n+1,f=>sm n f+f n
theorem bV(n:Nat)(f:Nat→K):sm (n+1) f=sm n f+f n:=rfl
theorem Rg(f:Nat→K):sm 0 f=0:=rfl
theorem xz(f:Nat→K):sm 1 f=f 0:=zero_add _
theorem ag{f g:Nat→K}:∀{n:Nat},(∀i,i<n→f i=g i)→sm n f=sm n g
 | 0,_=>rfl
 | n+1,h=>by rw[bV,bV,ag (fun i hi=>h i (by omega)),h n (by omega)]
theorem dX{f:Nat→K}:∀{n:Nat},(∀i,i<n→f i=0)→sm n f=0
 | 0,_=>rfl
 | n+1,h=>by rw[bV,dX (fun i hi=>h i (by omega)),h n (by omega),add_zero]
theorem m7(f g:Nat→K):∀n,sm n (fun i=>f i+g i)=sm n f+sm n g
 | 0=>(add_zero 0).symm
 | n+1=>by
  rw[bV,bV,bV,m7 f g n]
  exact(show(((sm n f)+(sm n g))+((f n)+(g n)))=(((sm n f)+(f n))+((sm n g)+(g n))) from aj [(sm n f),(sm n g),(f n),(g n)] (.add (.add (.v 0) (.v 1)) (.add (.v 2) (.v 3))) (.add (.add (.v 0) (.v 2)) (.add (.v 1) (.v 3))) rfl)
theorem jn(a:K)(f:Nat→K):∀n,a*sm n f=sm n (fun i=>a*f i)
 | 0=>mul_zero a
 | n+1=>by rw[bV,bV,mul_add,jn a f n]
theorem nN(a:K)(f:Nat→K)(n:Nat):sm n f*a=sm n (fun i=>f i*a):=by
 rw[mul_comm,jn];exact ag fun i _=>mul_comm _ _
theorem ss(f:Nat→K):∀n,-sm n f=sm n (fun i=>- f i)
 | 0=>neg_zero
 | n+1=>by rw[bV,bV,neg_add,ss f n]
theorem gn(f:Nat→K):∀n,sm (n+1) f=f 0+sm n (fun i=>f (i+1))
 | 0=>by rw[bV,Rg,Rg,zero_add,add_zero]
 | n+1=>by rw[bV,gn f n,bV,add_assoc]
theorem sv(f:Nat→K):∀n,sm n f=sm n (fun i=>f (n-1-i))
 | 0=>rfl
 | n+1=>by
  rw[gn (fun i=>f (n+1-1-i)),bV,sv f n,add_comm]
  congr 1
  exact ag fun i _=>by rw[show n+1-1-(i+1)=n-1-i by omega]
theorem qm(f:Nat→K)(m:Nat):∀n,sm (m+n) f=sm m f+sm n (fun i=>f (m+i))
 | 0=>(add_zero _).symm
 | n+1=>by rw[←Nat.add_assoc,bV,qm f m n,bV,add_assoc]
theorem jE{f:Nat→K}{k:Nat}:∀{n:Nat},k<n→(∀i,i<n→i≠k→f i=0)→sm n f=f k
 | 0,h,_=>by omega
 | n+1,h,hz=>by
  rw[bV]
  by_cases e:k=n
  ·subst e
   rw[dX (fun i hi=>hz i (by omega) (by omega)),zero_add]
  ·rw[jE (by omega) (fun i hi=>hz i (by omega)),hz n (by omega) (fun h=>e h.symm),add_zero]
theorem fV{f:Nat→K}{m n:Nat}(h:m≤n)(hz:∀i,m≤i→i<n→f i=0):sm n f=sm m f:=by
 obtain⟨k,rfl⟩:∃k,n=m+k:=⟨n-m,by omega⟩
 rw[qm,dX (n:=k) (fun i hi=>hz _ (by omega) (by omega)),add_zero]
theorem yC(f:Nat→Nat→K):∀n,sm (n+1) (fun k=>sm (k+1) (fun i=>f i (k-i)))=sm (n+1) (fun i=>sm (n-i+1) (fun j=>f i j))
 | 0=>rfl
 | n+1=>by
  rw[bV,yC f n,bV (n+1) (fun i=>sm (n+1-i+1) (fun j=>f i j)),Nat.sub_self,xz]
  have e:sm (n+1) (fun i=>sm (n+1-i+1) (fun j=>f i j))=sm (n+1) (fun i=>sm (n-i+1) (fun j=>f i j))+sm (n+1) (fun i=>f i (n+1-i)):=by
   rw[←m7]
   refine ag fun i hi=>?_
   rw[show n+1-i+1=(n-i+1)+1 by omega,bV,show n-i+1=n+1-i by omega]
  rw[e,bV (n+1) (fun i=>f i (n+1-i)),Nat.sub_self,add_assoc]
abbrev Ser(K:Type):=Nat→K
def cv(p q:Ser K):Ser K:=fun n=>sm (n+1) (fun i=>p i*q (n-i))
theorem cX(p q:Ser K):cv p q=cv q p:=by
 funext n
 unfold cv
 rw[sv]
 refine ag fun i hi=>?_
 rw[show n+1-1-i=n-i by omega,show n-(n-i)=i by omega,mul_comm]
theorem dO(p q r:Ser K):cv (cv p q) r=cv p (cv q r):=by
 funext n
 unfold cv
 have h:=yC (fun i j=>p i*q j*r (n-i-j)) n
 have e1:sm (n+1) (fun k=>sm (k+1) (fun i=>p i*q (k-i))*r (n-k))=sm (n+1) (fun k=>sm (k+1) (fun i=>p i*q (k-i)*r (n-i-(k-i)))):=by
  refine ag fun k hk=>?_
  rw[nN]
  refine ag fun i hi=>?_
  rw[show n-i-(k-i)=n-k by omega]
 rw[e1,h]
 refine ag fun i hi=>?_
 rw[jn]
 refine ag fun j hj=>?_
 rw[mul_assoc]
theorem py(p q r:Ser K)(n:Nat):cv (fun i=>p i+q i) r n=cv p r n+cv q r n:=by
 unfold cv
 rw[←m7]
 exact ag fun i _=>add_mul _ _ _
theorem pW(p q r:Ser K)(n:Nat):cv r (fun i=>p i+q i) n=cv r p n+cv r q n:=by
 unfold cv
 rw[←m7]
 exact ag fun i _=>mul_add _ _ _
theorem oH(a:K)(p q:Ser K)(n:Nat):cv (fun i=>a*p i) q n=a*cv p q n:=by
 unfold cv
 rw[jn]
 exact ag fun i _=>mul_assoc _ _ _
theorem Gj(p q:Ser K)(n:Nat):cv (fun i=>- p i) q n=- cv p q n:=by
 unfold cv
 rw[ss]
 exact ag fun i _=>neg_mul _ _
theorem jS{p p' q q':Ser K}{n:Nat}(h:∀i,i≤n→p i=p' i)(k:∀i,i≤n→q i=q' i):cv p q n=cv p' q' n:=by
 unfold cv
 refine ag fun i hi=>?_
 rw[h i (by omega),k (n-i) (by omega)]
theorem nP(p q:Ser K):cv p q 0=p 0*q 0:=xz _
def sh(m:Nat)(p:Ser K):Ser K:=fun n=>if m≤n then p (n-m) else 0
theorem kH{m n:Nat}(p:Ser K)(h:n<m):sh m p n=0:=by unfold sh;rw[if_neg (by omega)]
theorem fw{m n:Nat}(p:Ser K)(h:m≤n):sh m p n=p (n-m):=by unfold sh;rw[if_pos h]
theorem FQ(m:Nat)(p q:Ser K):cv (sh m p) q=sh m (cv p q):=by
 funext n
 by_cases h:m≤n
 ·rw[fw _ h]
  unfold cv
  obtain⟨k,rfl⟩:∃k,n=m+k:=⟨n-m,by omega⟩
  rw[show m+k+1=m+(k+1) by omega,qm,dX (n:=m) (fun i hi=>by rw[kH _ hi,zero_mul]),zero_add,show m+k-m=k by omega]
  refine ag fun i hi=>?_
  rw[fw _ (by omega),show m+i-m=i by omega,show m+k-(m+i)=k-i by omega]
 ·rw[kH _ (by omega)]
  exact dX fun i hi=>by rw[kH _ (by omega),zero_mul]
def s1:Ser K:=fun n=>if n=0 then 1 else 0
theorem fo(p:Ser K):cv s1 p=p:=by
 funext n
 unfold cv
 rw[jE (k:=0) (by omega) (fun i _ h=>by unfold s1;rw[if_neg h,zero_mul])]
 unfold s1
 rw[if_pos rfl,one_mul,Nat.sub_zero]
def dg(p:Ser K)(d:Nat):Prop:=∀i,d<i→p i=0
theorem I1{p:Ser K}{d e:Nat}(h:dg p d)(he:d≤e):dg p e:=fun i hi=>h i (by omega)
theorem xA{p q:Ser K}{a b:Nat}(hp:dg p a)(hq:dg q b):dg (cv p q) (a+b):=by
 intro n hn
 refine dX fun i hi=>?_
 by_cases h:a<i
 ·rw[hp i h,zero_mul]
 ·rw[hq (n-i) (by omega),mul_zero]
def pv(p:Ser K)(d:Nat)(x:K):K:=sm (d+1) (fun i=>p i*pw x i)
theorem zF{p:Ser K}{d e:Nat}(h:dg p d)(he:d≤e)(x:K):pv p e x=pv p d x:=
 fV (by omega) fun i h1 h2=>by rw[h i (by omega),zero_mul]
theorem kI{p q:Ser K}{a b:Nat}(hp:dg p a)(hq:dg q b)(x:K):pv (cv p q) (a+b) x=pv p a x*pv q b x:=by
 unfold pv cv
 have e1:sm (a+b+1) (fun n=>sm (n+1) (fun i=>p i*q (n-i))*pw x n)=sm (a+b+1) (fun n=>sm (n+1) (fun i=>p i*pw x i*(q (n-i)*pw x (n-i)))):=by
  refine ag fun n hn=>?_
  rw[nN]
  refine ag fun i hi=>?_
  obtain⟨k,rfl⟩:∃k,n=i+k:=⟨n-i,by omega⟩
  rw[show i+k-i=k by omega,eU]
  exact(show(((p i)*(q k))*((pw x i)*(pw x k)))=(((p i)*(pw x i))*((q k)*(pw x k))) from aj [(p i),(q k),(pw x i),(pw x k)] (.mul (.mul (.v 0) (.v 1)) (.mul (.v 2) (.v 3))) (.mul (.mul (.v 0) (.v 2)) (.mul (.v 1) (.v 3))) rfl)
 rw[e1,yC (fun i j=>p i*pw x i*(q j*pw x j)),nN,fV (m:=a+1) (by omega) (fun i h1 h2=>by
  refine dX fun j _=>?_
  rw[hp i (by omega),zero_mul,zero_mul])]
 refine ag fun i hi=>?_
 rw[jn,fV (m:=b+1) (by omega) (fun j h1 h2=>by rw[hq j (by omega),zero_mul,mul_zero])]
def lin(X:K):Ser K:=fun n=>if n=0 then 1 else if n=1 then-X else 0
theorem kq(X:K):dg (lin X) 1:=by
 intro i hi
 unfold lin
 rw[if_neg (by omega),if_neg (by omega)]
theorem qi(X x:K):pv (lin X) 1 x=1-X*x:=by
 unfold pv lin
 rw[bV,xz,if_pos rfl,if_neg (by omega),if_pos rfl,eK,mP,mul_one,neg_mul];rfl
theorem mY(X:K)(p:Ser K)(n:Nat):cv (lin X) p (n+1)=p (n+1)-X*p n:=by
 unfold cv
 rw[gn,gn,dX (n:=n) (fun i _=>by unfold lin;rw[if_neg (by omega),if_neg (by omega),zero_mul])]
 unfold lin
 rw[if_pos rfl,if_neg (by omega),if_pos rfl,one_mul,add_zero,neg_mul];rfl
theorem n8(X:K)(p:Ser K):cv (lin X) p 0=p 0:=by
 rw[nP];unfold lin;rw[if_pos rfl,one_mul]
def dl(X:K)(p:Ser K):Ser K:=fun n=>sm (n+1) (fun i=>p i*pw X (n-i))
theorem IM(X:K)(p:Ser K):dl X p 0=p 0:=by
 unfold dl;rw[xz,eK,mul_one]
theorem Gz(X:K)(p:Ser K)(n:Nat):dl X p (n+1)=X*dl X p n+p (n+1):=by
 unfold dl
 rw[bV,Nat.sub_self,eK,mul_one,jn]
 congr 1
 refine ag fun i hi=>?_
 rw[show n+1-i=(n-i)+1 by omega,dq]
 exact(show((p i)*((pw X (n-i))*X))=(X*((p i)*(pw X (n-i)))) from aj [(p i),(pw X (n-i)),X] (.mul (.v 0) (.mul (.v 1) (.v 2))) (.mul (.v 2) (.mul (.v 0) (.v 1))) rfl)
theorem NH(X:K)(p:Ser K):cv (lin X) (dl X p)=p:=by
 funext n
 cases n with
 | zero=>rw[n8,IM]
 | succ n=>rw[mY,Gz];exact(show(((X*dl X p n)+(p (n+1)))-(X*dl X p n))=(p (n+1)) from aj [(X*dl X p n),(p (n+1))] (.add (.add (.v 0) (.v 1)) (.neg (.v 0))) (.v 1) rfl)
theorem l7{x X:K}(h:X*x=1)(n:Nat):pw X n*pw x n=1:=by rw[←oP,h,gO]
theorem Qh{X x:K}(h:X*x=1){p:Ser K}{d:Nat}(hp:dg p (d+1))(hr:pv p (d+1) x=0):dg (dl X p) d:=by
 have key:∀n,d+1≤n→dl X p n=pw X n*pv p (d+1) x:=by
  intro n hn
  unfold dl pv
  rw[fV (m:=d+1+1) (by omega) (fun i h1 h2=>by rw[hp i (by omega),zero_mul]),jn]
  refine ag fun i hi=>?_
  obtain⟨k,rfl⟩:∃k,n=k+i:=⟨n-i,by omega⟩
  rw[show k+i-i=k by omega,eU]
  have:=l7 h i
  have e:=(show(((pw X k)*(pw X i))*((p i)*(pw x i)))=(((p i)*(pw X k))*((pw X i)*(pw x i))) from aj [(pw X k),(pw X i),(p i),(pw x i)] (.mul (.mul (.v 0) (.v 1)) (.mul (.v 2) (.v 3))) (.mul (.mul (.v 2) (.v 0)) (.mul (.v 1) (.v 3))) rfl)
  rw[e,this,mul_one]
 intro i hi
 rw[key i (by omega),hr,mul_zero]
def aT:List K→Ser K
 | []=>s1
 | X::l=>cv (lin X) (aT l)
theorem zO:dg (s1:Ser K) 0:=by
 intro i hi;unfold s1;rw[if_neg (by omega)]
theorem dS:∀l:List K,dg (aT l) l.length
 | []=>zO
 | X::l=>by
  have:=xA (kq X) (dS l)
  rw[show 1+l.length=(X::l).length by simp;omega]at this
  exact this
theorem jY:∀l:List K,aT l 0=1
 | []=>rfl
 | X::l=>by rw[aT,n8,jY l]
theorem J9(x:K):pv s1 0 x=1:=by
 unfold pv;rw[xz,eK,mul_one];rfl
theorem nJ(X:K)(l:List K)(x:K):pv (aT (X::l)) (l.length+1) x=(1-X*x)*pv (aT l) l.length x:=by
 have:=kI (kq X) (dS l) x
 rw[qi,show 1+l.length=l.length+1 by omega]at this
 exact this
theorem iV:∀{l:List K} {X x:K},X ∈ l→X*x=1→pv (aT l) l.length x=0
 | [],_,_,h,_=>by simp at h
 | Y::l,X,x,h,e=>by
  rw[List.length_cons,nJ]
  rcases List.mem_cons.1 h with rfl|h
  ·rw[e,sub_self,zero_mul]
  ·rw[iV h e,mul_zero]
theorem qp{X Y x:K}(e:X*x=1)(h:X≠Y):1-Y*x≠0:=by
 intro h2
 apply h
 have hx:x≠0:=by rintro rfl;rw[mul_zero]at e;exact gM e.symm
 apply mul_left_cancel hx
 rw[mul_comm x X,mul_comm x Y,e]
 exact sub_eq_zero h2
theorem eF:∀{l:List K} {X x:K},X ∉ l→X*x=1→pv (aT l) l.length x≠0
 | [],_,x,_,_=>by rw[aT,List.length_nil,J9];exact gM
 | Y::l,X,x,h,e=>by
  rw[List.length_cons,nJ]
  refine mul_ne_zero (qp e (fun e2=>h (by rw[e2];simp))) (eF (fun h2=>h (by simp[h2])) e)
theorem jL:∀(l:List K) (xs:List K) (p:Ser K) (d:Nat),l.length=xs.length→l.Nodup→(∀i (h:i<l.length) (h':i<xs.length),l[i]*xs[i]=1)→dg p (l.length+d)→(∀x ∈ xs,pv p (l.length+d) x=0)→∃q,dg q d∧p=cv (aT l) q
 | [],xs,p,d,_,_,_,hp,_=>⟨p,by simpa using hp,by rw[aT,fo]⟩
 | X::l,[],p,d,hl,_,_,_,_=>by simp at hl
 | X::l,x::xs,p,d,hl,hn,hx,hp,hr=>by
  have e:X*x=1:=hx 0 (by simp) (by simp)
  have hlen:l.length=xs.length:=by simpa using hl
  have hd:(X::l).length+d=(l.length+d)+1:=by simp;omega
  rw[hd]at hp hr
  have h1:=Qh e hp (hr x (by simp))
  have h2:p=cv (lin X) (dl X p):=(NH X p).symm
  have hnot:X ∉ l:=(List.nodup_cons.1 hn).1
  obtain⟨q,hq,hq2⟩:=jL l xs (dl X p) d hlen (List.nodup_cons.1 hn).2 (fun i h h'=>hx (i+1) (by simpa using h) (by simpa using h')) h1 (by
   intro y hy
   have hp0:=hr y (by simp[hy])
   rw[h2]at hp0
   have hv:=kI (kq X) h1 y
   rw[show 1+(l.length+d)=l.length+d+1 by omega,hp0,qi]at hv
   obtain⟨i,hi,rfl⟩:=List.getElem_of_mem hy
   have hi':i<l.length:=by omega
   have hy1:=hx (i+1) (by simpa using hi') (by simpa using hi)
   simp only[List.getElem_cons_succ]at hy1
   rcases mul_eq_zero hv.symm with h0|h0
   ·exact absurd h0 (qp hy1 (fun e2=>hnot (by rw[←e2];exact List.getElem_mem _)))
   ·exact h0)
  exact⟨q,hq,by rw[aT,dO,←hq2,←h2]⟩
end
end Go.RS
namespace Go.RS
section
variable {K:Type}[Fd K]
structure Gen (s C:Ser K)(L n:Nat):Prop where
 one:C 0=1
 deg:dg C L
 gen:∀k,L≤k→k<n→cv C s k=0
theorem Gen.less{s C:Ser K}{L m n:Nat}(h:Gen s C L n)(hm:m≤n):Gen s C L m:=⟨h.one,h.deg,fun k h1 h2=>h.gen k h1 (by omega)⟩
theorem LL{s C D:Ser K}{L M n:Nat}(hC:Gen s C L n)(hd:cv C s n≠0)(hD:Gen s D M (n+1)):n+1≤L+M:=by
 apply Decidable.byContradiction
 intro hc
 apply hd
 have e1:cv D (cv C s) n=cv C s n:=by
  show sm (n+1) (fun j=>D j*cv C s (n-j))=_
  rw[jE (k:=0) (by omega) (fun j h1 h2=>by
   by_cases h:M<j
   ·rw[hD.deg j h,zero_mul]
   ·rw[hC.gen (n-j) (by omega) (by omega),mul_zero]),hD.one,one_mul,Nat.sub_zero]
 have e2:cv C (cv D s) n=0:=by
  refine dX fun i hi=>?_
  by_cases h:L<i
  ·rw[hC.deg i h,zero_mul]
  ·rw[hD.gen (n-i) (by omega) (by omega),mul_zero]
 rw[←e1,←dO,cX D C,dO,e2]
structure Reg (K:Type) where
 C:Ser K
 B:Ser K
 L:Nat
 m:Nat
 b:K
def Reg.init:Reg K:=⟨s1,s1,0,1,1⟩
def Reg.next(s:Ser K)(n:Nat)(r:Reg K):Reg K:=
 if cv r.C s n=0 then { r with m:=r.m+1 }
 else if 2*r.L≤n then⟨fun i=>r.C i-cv r.C s n*inv r.b*sh r.m r.B i,r.C,n+1-r.L,1,cv r.C s n⟩
 else { r with C:=fun i=>r.C i-cv r.C s n*inv r.b*sh r.m r.B i,m:=r.m+1 }
def Reg.run(s:Ser K):Nat→Reg K
 | 0=>Reg.init
 | n+1=>(Reg.run s n).next s n
structure RInv (s:Ser K)(n:Nat)(r:Reg K):Prop where
 gen:Gen s r.C r.L n
 le:r.L≤n
 min:∀D M,Gen s D M n→r.L≤M
 b:r.b≠0
 mp:0<r.m
 old:∃LB,dg r.B LB∧r.L+LB+r.m=n+1∧(∀t,LB≤t→t+r.m<n→cv r.B s t=0)∧(LB+r.m≤n→cv r.B s (n-r.m)=r.b)
theorem BD(s:Ser K):RInv s 0 (Reg.init:Reg K):=by
 refine⟨⟨rfl,zO,fun k _ h=>by omega⟩,Nat.le_refl _,fun _ _ _=>Nat.zero_le _,gM,Nat.zero_lt_one,0,zO,rfl,fun t _ h=>by omega,fun h=>?_⟩
 simp[Reg.init]at h
theorem HZ{s C B:Ser K}{a:K}{m k:Nat}:cv (fun i=>C i-a*sh m B i) s k=cv C s k-a*sh m (cv B s) k:=by
 have:(fun i=>C i-a*sh m B i)=(fun i=>C i+(fun j=>- (a*sh m B j)) i):=rfl
 rw[this,py,Gj,oH,FQ];rfl
theorem Az{s:Ser K}{n:Nat}{r:Reg K}(h:RInv s n r):RInv s (n+1) (r.next s n):=by
 obtain⟨LB,o1,o2,o3,o4⟩:=h.old
 unfold Reg.next
 split
 ·rename_i hd
  refine⟨⟨h.gen.one,h.gen.deg,fun k h1 h2=>?_⟩,by have:=h.le;simp only;omega,fun D M hD=>h.min D M (hD.less (by omega)),h.b,Nat.succ_pos _,LB,o1,by simp only;omega,fun t h1 h2=>o3 t h1 (by simp only at h2;omega),fun h1=>?_⟩
  ·by_cases e:k=n
   ·rw[e];exact hd
   ·exact h.gen.gen k h1 (by omega)
  ·simp only at h1 ⊢
   rw[←o4 (by omega),show n+1-(r.m+1)=n-r.m by omega]
 ·rename_i hd
  have hone:(fun i=>r.C i-cv r.C s n*inv r.b*sh r.m r.B i) 0=1:=by
   have hm:=h.mp
   show r.C 0-_*sh r.m r.B 0=1
   rw[kH _ hm,mul_zero,h.gen.one]
   exact(show(1-0)=1 from aj [((1:K))] (.add .one (.neg .zero)) .one rfl)
  have hdeg:∀L',r.L≤L'→n+1-r.L≤L'→dg (fun i=>r.C i-cv r.C s n*inv r.b*sh r.m r.B i) L':=by
   intro L' h1 h2 i hi
   show r.C i-_*sh r.m r.B i=0
   rw[h.gen.deg i (by omega),fw _ (by omega),o1 (i-r.m) (by omega),mul_zero]
   exact(show(0-0)=0 from aj [((1:K))] (.add .zero (.neg .zero)) .zero rfl)
  have hgen:∀L',r.L≤L'→n+1-r.L≤L'→∀k,L'≤k→k<n+1→cv (fun i=>r.C i-cv r.C s n*inv r.b*sh r.m r.B i) s k=0:=by
   intro L' h1 h2 k h3 h4
   rw[HZ,fw _ (by omega)]
   by_cases e:k=n
   ·subst e
    rw[o4 (by omega),mul_assoc,inv_mul h.b,mul_one,sub_self]
   ·rw[h.gen.gen k (by omega) (by omega),o3 (k-r.m) (by omega) (by omega),mul_zero]
    exact(show(0-0)=0 from aj [((1:K))] (.add .zero (.neg .zero)) .zero rfl)
  have hmin:∀D M,Gen s D M (n+1)→r.L≤M∧n+1-r.L≤M:=fun D M hD=>⟨h.min D M (hD.less (by omega)),by have:=LL h.gen hd hD;omega⟩
  by_cases hl:2*r.L≤n
  ·rw[if_pos hl]
   refine⟨⟨hone,hdeg _ (by simp only;omega) (Nat.le_refl _),hgen _ (by simp only;omega) (Nat.le_refl _)⟩,by simp only;omega,fun D M hD=>(hmin D M hD).2,hd,Nat.zero_lt_one,r.L,h.gen.deg,by simp only;omega,fun t h1 h2=>h.gen.gen t h1 (by simp only at h2;omega),fun _=>?_⟩
   simp only
   rw[show n+1-1=n by omega]
  ·rw[if_neg hl]
   have hl2:n+1-r.L≤r.L:=by omega
   refine⟨⟨hone,hdeg _ (Nat.le_refl _) hl2,hgen _ (Nat.le_refl _) hl2⟩,by have:=h.le;simp only;omega,fun D M hD=>(hmin D M hD).1,h.b,Nat.succ_pos _,LB,o1,by simp only;omega,fun t h1 h2=>o3 t h1 (by simp only at h2;omega),fun h1=>?_⟩
   simp only at h1 ⊢
   rw[←o4 (by omega),show n+1-(r.m+1)=n-r.m by omega]
theorem gD(s:Ser K):∀n,RInv s n (Reg.run s n)
 | 0=>BD s
 | n+1=>Az (gD s n)
theorem sY{s t:Ser K}:∀{n:Nat},(∀k,k<n→s k=t k)→Reg.run s n=Reg.run t n
 | 0,_=>rfl
 | n+1,h=>by
  have e:=sY (fun k hk=>h k (by omega):∀k,k<n→s k=t k)
  have e2:∀C:Ser K,cv C s n=cv C t n:=fun C=>jS (fun _ _=>rfl) (fun i hi=>h i (by omega))
  simp only[Reg.run,e,Reg.next,e2]
def geo(X:K):Ser K:=fun n=>pw X n
theorem Lo(X:K):cv (lin X) (geo X)=s1:=by
 funext n
 cases n with
 | zero=>rw[n8];rfl
 | succ n=>
  rw[mY]
  show pw X n*X-X*pw X n=0
  rw[mul_comm X,sub_self]
def gs:List (K×K)→Ser K
 | []=>fun _=>0
 | (y,X)::l=>fun n=>y*geo X n+gs l n
def xs:List (K×K)→List K:=List.map Prod.snd
def om:List (K×K)→Ser K
 | []=>fun _=>0
 | (y,X)::l=>fun n=>y*aT (xs l) n+cv (lin X) (om l) n
theorem mg(p:Ser K):cv p (fun _=>0)=fun _=>0:=by
 funext n
 exact dX fun i _=>mul_zero _
theorem rS(a:K)(p q:Ser K)(n:Nat):cv p (fun i=>a*q i) n=a*cv p q n:=by
 rw[cX,oH,cX]
theorem vZ:∀l:List (K×K),cv (aT (xs l)) (gs l)=om l
 | []=>mg _
 | (y,X)::l=>by
  funext n
  show cv (cv (lin X) (aT (xs l))) (fun n=>y*geo X n+gs l n) n=_
  rw[pW,rS,cX (lin X),dO,Lo,cX _ s1,fo,cX (aT (xs l)),dO,vZ l]
  rfl
theorem eo(l:List (K×K)):(xs l).length=l.length:=by simp[xs]
theorem lk:∀l:List (K×K),∀i,l.length≤i→om l i=0
 | [],_,_=>rfl
 | (y,X)::l,i,h=>by
  have h:l.length+1≤i:=by simpa using h
  have h2:=dS (xs l)
  rw[eo]at h2
  show y*aT (xs l) i+cv (lin X) (om l) i=0
  rw[h2 i (by omega),mul_zero,zero_add]
  cases i with
  | zero=>omega
  | succ i=>rw[mY,lk l (i+1) (by omega),lk l i (by omega),mul_zero];exact(show(0-0)=0 from aj [((1:K))] (.add .zero (.neg .zero)) .zero rfl)
theorem yM(p q:Ser K)(d:Nat)(x:K):pv (fun i=>p i+q i) d x=pv p d x+pv q d x:=by
 unfold pv;rw[←m7];exact ag fun i _=>add_mul _ _ _
theorem uU(a:K)(p:Ser K)(d:Nat)(x:K):pv (fun i=>a*p i) d x=a*pv p d x:=by
 unfold pv;rw[jn];exact ag fun i _=>mul_assoc _ _ _
theorem Ej:∀(l:List (K×K)) (j:Nat) (h:j<l.length) (x:K),(l[j]).2*x=1→pv (om l) l.length x=(l[j]).1*pv (aT ((xs l).eraseIdx j)) (l.length-1) x
 | [],j,h,_,_=>by simp at h
 | (y,X)::l,0,h,x,e=>by
  have e:X*x=1:=e
  show pv (fun n=>y*aT (xs l) n+cv (lin X) (om l) n) (l.length+1) x=y*pv (aT (xs l)) (l.length+1-1) x
  have h1:dg (om l) l.length:=fun i hi=>lk l i (by omega)
  have h2:=kI (kq X) h1 x
  have h3:=dS (xs l)
  rw[eo]at h3
  rw[show 1+l.length=l.length+1 by omega,qi,e,sub_self,zero_mul]at h2
  rw[yM,uU,h2,add_zero,Nat.add_sub_cancel,zF h3 (by omega)]
 | (y,X)::l,j+1,h,x,e=>by
  have hj:j<l.length:=by simpa using h
  have e:(l[j]).2*x=1:=e
  show pv (fun n=>y*aT (xs l) n+cv (lin X) (om l) n) (l.length+1) x=(l[j]).1*pv (cv (lin X) (aT ((xs l).eraseIdx j))) (l.length+1-1) x
  have h1:dg (om l) l.length:=fun i hi=>lk l i (by omega)
  have h2:=kI (kq X) h1 x
  have h3:=dS (xs l)
  have h4:=dS ((xs l).eraseIdx j)
  have h5:((xs l).eraseIdx j).length=l.length-1:=by rw[List.length_eraseIdx_of_lt (by rw[eo];exact hj),eo]
  rw[h5]at h4
  rw[eo]at h3
  have h6:=kI (kq X) h4 x
  have hz:pv (aT (xs l)) l.length x=0:=by
   have:=iV (l:=xs l) (X:=(l[j]).2) (x:=x) (List.mem_map.2 ⟨l[j],List.getElem_mem _,rfl⟩) e
   rwa [eo]at this
  rw[show 1+(l.length-1)=l.length by omega]at h6
  rw[yM,uU,zF h3 (by omega),hz,mul_zero,zero_add,show l.length+1=1+l.length by omega,h2,Ej l j hj x e,show 1+l.length-1=l.length by omega,h6]
  exact(show((pv (lin X) 1 x)*(((l[j]).1)*(pv (aT ((xs l).eraseIdx j)) (l.length-1) x)))=(((l[j]).1)*((pv (lin X) 1 x)*(pv (aT ((xs l).eraseIdx j)) (l.length-1) x))) from aj [(pv (lin X) 1 x),((l[j]).1),(pv (aT ((xs l).eraseIdx j)) (l.length-1) x)] (.mul (.v 0) (.mul (.v 1) (.v 2))) (.mul (.v 1) (.mul (.v 0) (.v 2))) rfl)
theorem nR:∀l:List K,(∀X ∈ l,X≠0)→aT l l.length≠0
 | [],_=>gM
 | X::l,h=>by
  show cv (lin X) (aT l) (l.length+1)≠0
  rw[mY,dS l _ (by omega)]
  have h1:=nR l (fun Y hY=>h Y (by simp[hY]))
  have h2:=mul_ne_zero (h X (by simp)) h1
  intro h3
  apply neg_ne_zero h2
  rw[←h3]
  exact(show(-(X*aT l l.length))=(0-(X*aT l l.length)) from aj [(X*aT l l.length)] (.neg (.v 0)) (.add .zero (.neg (.v 0))) rfl)
theorem tL{l:List K}(hn:l.Nodup){j:Nat}(hj:j<l.length):l[j] ∉ l.eraseIdx j:=by
 intro hm
 obtain⟨i,hi,he⟩:=List.getElem_of_mem hm
 rw[List.getElem_eraseIdx]at he
 have hl:=List.length_eraseIdx_of_lt hj
 split at he
 ·have:=(List.getElem_inj hn).1 he;omega
 ·have:=(List.getElem_inj hn).1 he;omega
theorem BJ{s C:Ser K}{L N:Nat}(hg:Gen s C L N)(hmin:∀D M,Gen s D M N→L≤M)(l:List (K×K))(hy:∀p ∈ l,p.1≠0)(hX:∀p ∈ l,p.2≠0)(hn:(xs l).Nodup)(hs:∀k,k<N→s k=gs l k)(ht:2*l.length≤N):C=aT (xs l)∧L=l.length:=by
 have hcv:∀(D:Ser K) k,k<N→cv D s k=cv D (gs l) k:=fun D k hk=>jS (fun _ _=>rfl) (fun i hi=>hs i (by omega))
 have hdl:=dS (xs l)
 rw[eo]at hdl
 have hL:L≤l.length:=hmin (aT (xs l)) l.length ⟨jY _,hdl,fun k h1 h2=>by rw[hcv _ k h2,vZ,lk l k h1]⟩
 have hA:∀k,L≤k→k<N→cv C (gs l) k=0:=fun k h1 h2=>by rw[←hcv _ k h2];exact hg.gen k h1 h2
 have hP:cv C (om l)=cv (aT (xs l)) (fun k=>if k<L then cv C (gs l) k else 0):=by
  funext n
  by_cases hnN:n<N
  ·rw[←vZ,←dO,cX C,dO]
   refine jS (fun _ _=>rfl) (fun i hi=>?_)
   split
   ·rfl
   ·exact hA i (by omega) (by omega)
  ·rw[show cv C (om l) n=0 from dX fun i hi=>by
    by_cases h:L<i
    ·rw[hg.deg i h,zero_mul]
    ·rw[lk l (n-i) (by omega),mul_zero]]
   refine(dX fun i hi=>?_).symm
   by_cases h:l.length<i
   ·rw[hdl i h,zero_mul]
   ·by_cases h2:n-i<L
    ·have:n-i+i=n:=by omega
     exact absurd hnN (by omega)
    ·show aT (xs l) i*(if n-i<L then cv C (gs l) (n-i) else 0)=0
     rw[if_neg h2,mul_zero]
 have hroot:∀j (h:j<l.length),pv C L (inv (l[j]).2)=0:=by
  intro j h
  have hXj:=hX l[j] (List.getElem_mem _)
  have e:(l[j]).2*inv (l[j]).2=1:=dr hXj
  have h1:dg (om l) l.length:=fun i hi=>lk l i (by omega)
  have h2:=kI hg.deg h1 (inv (l[j]).2)
  have h3:dg (fun k=>if k<L then cv C (gs l) k else 0) L:=fun i hi=>if_neg (by omega)
  have h4:=kI hdl h3 (inv (l[j]).2)
  have hz:pv (aT (xs l)) l.length (inv (l[j]).2)=0:=by
   have:=iV (l:=xs l) (X:=(l[j]).2) (List.mem_map.2 ⟨l[j],List.getElem_mem _,rfl⟩) e
   rwa [eo]at this
  rw[hz,zero_mul,←hP,show l.length+L=L+l.length by omega,h2]at h4
  rcases mul_eq_zero h4 with h5|h5
  ·exact h5
  ·rw[Ej l j h _ e]at h5
   rcases mul_eq_zero h5 with h6|h6
   ·exact absurd h6 (hy _ (List.getElem_mem _))
   ·exfalso
    have hj':j<(xs l).length:=by rw[eo];exact h
    have hnm:=tL hn hj'
    have h7:=eF (X:=(l[j]).2) (l:=(xs l).eraseIdx j) (by simpa[xs]using hnm) e
    rw[List.length_eraseIdx_of_lt hj',eo]at h7
    exact h7 h6
 have hdeg:dg C ((xs l).length+0):=I1 hg.deg (by rw[eo];omega)
 obtain⟨q,hq,hCq⟩:=jL (xs l) ((xs l).map inv) C 0 (by simp) hn (fun i h h'=>by
   rw[List.getElem_map]
   exact dr (by
    obtain⟨p,hp,he⟩:=List.mem_map.1 (List.getElem_mem h)
    rw[←he];exact hX p hp)) hdeg (fun x hx=>by
   obtain⟨X,hXm,rfl⟩:=List.mem_map.1 hx
   obtain⟨p,hp,rfl⟩:=List.mem_map.1 hXm
   obtain⟨j,hj,rfl⟩:=List.getElem_of_mem hp
   rw[zF hg.deg (by rw[eo];omega)]
   exact hroot j hj)
 have hq0:q 0=1:=by
  have:=hg.one
  rwa [hCq,nP,jY,one_mul]at this
 have hqs:q=s1:=by
  funext i
  unfold s1
  split
  ·rename_i h;rw[h];exact hq0
  ·exact hq i (by omega)
 have hC:C=aT (xs l):=by rw[hCq,hqs,cX,fo]
 refine⟨hC,?_⟩
 have htop:=nR (xs l) (fun X hXm=>by
  obtain⟨p,hp,rfl⟩:=List.mem_map.1 hXm
  exact hX p hp)
 rw[eo,←hC]at htop
 by_cases h:L<l.length
 ·exact absurd (hg.deg _ h) htop
 ·omega
end
end Go.RS
namespace Go.RS
theorem lL:∀(q:Nat) (l:List Nat),l.Nodup→(∀x ∈ l,x<q)→l.length≤q
 | 0,l,_,h=>by
  cases l with
  | nil=>simp
  | cons a l=>exact absurd (h a (by simp)) (by omega)
 | q+1,l,hn,h=>by
  by_cases hm:q ∈ l
  ·have h1:=List.length_erase_of_mem hm
   have h2:=lL q (l.erase q) (hn.erase q) (fun x hx=>by
    have h3:=h x (List.mem_of_mem_erase hx)
    have h4:x≠q:=(hn.mem_erase_iff.1 hx).1
    omega)
   have h3:=List.length_pos_of_mem hm
   omega
  ·have:=lL q l hn (fun x hx=>by
    have h3:=h x hx
    have h4:x≠q:=fun e=>hm (e▸hx)
    omega)
   omega
theorem gK{α:Type}{f:Nat→α}{n:Nat}(h:∀i j,i<n→j<n→f i=f j→i=j):((List.range n).map f).Nodup:=by
 rw[List.nodup_iff_pairwise_ne]at *
 rw[List.pairwise_map]
 refine List.Pairwise.imp_of_mem ?_ (List.nodup_iff_pairwise_ne.1 List.nodup_range)
 intro a b ha hb hne e
 exact hne (h a b (by simpa using ha) (by simpa using hb) e)
theorem og{q:Nat}{f:Nat→Nat}(h1:∀i,i<q→f i<q)(h2:∀i j,i<q→j<q→f i=f j→i=j){y:Nat}(hy:y<q):∃x,x<q∧f x=y:=by
 apply Decidable.byContradiction
 intro hc
 have hnot:y ∉ (List.range q).map f:=by
  intro hm
  obtain⟨x,hx,e⟩:=List.mem_map.1 hm
  exact hc ⟨x,by simpa using hx,e⟩
 have:=lL q (y::(List.range q).map f) (List.nodup_cons.2 ⟨hnot,gK h2⟩) (by
  intro x hx
  rcases List.mem_cons.1 hx with rfl|hx
  ·exact hy
  ·obtain⟨i,hi,rfl⟩:=List.mem_map.1 hx
   exact h1 i (by simpa using hi))
 simp at this
 omega
theorem least{P:Nat→Prop}:∀n,P n→∃m,m≤n∧P m∧∀k,k<m→¬ P k:=by
 intro n
 induction n using Nat.strongRecOn with
 | _ n ih=>
  intro h
  by_cases hc:∃k,k<n∧P k
  ·obtain⟨k,h1,h2⟩:=hc
   obtain⟨m,a,b,c⟩:=ih k h1 h2
   exact⟨m,by omega,b,c⟩
  ·exact⟨n,Nat.le_refl _,h,fun k hk hp=>hc ⟨k,hk,hp⟩⟩
theorem Fm{P:Nat→Prop}(b:Nat)(hb:∀n,P n→n≤b){n:Nat}(h:P n):∃m,P m∧∀k,P k→k≤m:=by
 obtain⟨m,h1,h2,h3⟩:=least (P:=fun k=>k≤b∧P (b-k)) (b-n) ⟨by omega,by rw[show b-(b-n)=n by have:=hb n h;omega];exact h⟩
 refine⟨b-m,h2.2,fun k hk=>?_⟩
 have hkb:=hb k hk
 apply Decidable.byContradiction
 intro hc
 exact h3 (b-k) (by omega) ⟨by omega,by rw[show b-(b-k)=k by omega];exact hk⟩
def Pr(p:Nat):Prop:=2≤p∧∀d,2≤d→d<p→¬ d ∣ p
theorem Ay{n:Nat}(h:2≤n):∃p,Pr p∧p ∣ n:=by
 obtain⟨p,h1,⟨h2,h3⟩,h4⟩:=least (P:=fun k=>2≤k∧k ∣ n) n ⟨h,Nat.dvd_refl n⟩
 exact⟨p,⟨h2,fun d hd hlt hdvd=>h4 d hlt ⟨hd,Nat.dvd_trans hdvd h3⟩⟩,h3⟩
theorem sG{p:Nat}(hp:2≤p):∀n,0<n→∃f m,n=p^f*m∧¬ p ∣ m:=by
 intro n
 induction n using Nat.strongRecOn with
 | _ n ih=>
  intro h
  by_cases hd:p ∣ n
  ·obtain⟨k,rfl⟩:=hd
   have hk:0<k:=by
    rcases Nat.eq_zero_or_pos k with rfl|h'
    ·simp at h
    ·exact h'
   obtain⟨f,m,h1,h2⟩:=ih k (by
    have:1*k<p*k:=Nat.mul_lt_mul_of_pos_right (by omega) hk
    omega) hk
   exact⟨f+1,m,by rw[h1,Nat.pow_succ,Nat.mul_comm (p^f) p,Nat.mul_assoc],h2⟩
  ·exact⟨0,n,by simp,hd⟩
theorem qY{p m:Nat}(hp:Pr p)(h:¬ p ∣ m):Nat.gcd p m=1:=by
 have hd:=Nat.gcd_dvd_left p m
 have hpos:0<Nat.gcd p m:=Nat.gcd_pos_of_pos_left m (by have:=hp.1;omega)
 have hle:=Nat.le_of_dvd (by have:=hp.1;omega) hd
 apply Decidable.byContradiction
 intro hc
 by_cases he:Nat.gcd p m=p
 ·apply h
  rw[←he]
  exact Nat.gcd_dvd_right p m
 ·exact hp.2 _ (by omega) (by omega) hd
theorem oV{p m:Nat}(h:Nat.gcd p m=1):∀e,Nat.gcd (p^e) m=1
 | 0=>by simp
 | e+1=>by
  rw[Nat.pow_succ]
  exact Nat.Coprime.mul_left (oV h e) h
theorem ux{k m:Nat}(hk:0<k)(hm:0<m)(h:¬ k ∣ m):∃p f m',Pr p∧m=p^f*m'∧¬ p ∣ m'∧p^(f+1) ∣ k:=by
 have hg:=Nat.gcd_dvd_left k m
 have hgpos:0<Nat.gcd k m:=Nat.gcd_pos_of_pos_left m hk
 obtain⟨d,hd⟩:=hg
 have hd2:2≤d:=by
  rcases Nat.lt_or_ge d 2 with h2|h2
  ·exfalso
   have:d=0∨d=1:=by omega
   rcases this with rfl|rfl
   ·simp at hd;omega
   ·apply h
    rw[Nat.mul_one]at hd
    rw[hd]
    exact Nat.gcd_dvd_right k m
  ·exact h2
 obtain⟨p,hp,hpd⟩:=Ay hd2
 obtain⟨f,m',h1,h2⟩:=sG hp.1 m hm
 obtain⟨j,k',h3,h4⟩:=sG hp.1 k hk
 refine⟨p,f,m',hp,h1,h2,?_⟩
 by_cases hj:f+1≤j
 ·rw[h3]
  exact Nat.dvd_trans (Nat.pow_dvd_pow p hj) (Nat.dvd_mul_right _ _)
 ·exfalso
  have hpj:p^j ∣ Nat.gcd k m:=Nat.dvd_gcd (by rw[h3];exact Nat.dvd_mul_right _ _) (by rw[h1];exact Nat.dvd_trans (Nat.pow_dvd_pow p (by omega)) (Nat.dvd_mul_right _ _))
  have:p^j*p ∣ k:=by rw[hd];exact Nat.mul_dvd_mul hpj hpd
  rw[h3]at this
  exact h4 (Nat.dvd_of_mul_dvd_mul_left (Nat.pow_pos (by have:=hp.1;omega)) this)
section
variable {K:Type}[Fd K]
def Ord(a:K)(n:Nat):Prop:=0<n∧pw a n=1∧∀m,0<m→m<n→pw a m≠1
theorem sk{a:K}{n:Nat}(h:pw a n=1)(k:Nat):pw a (k%n)=pw a k:=by
 have e:k=n*(k/n)+k%n:=(Nat.div_add_mod k n).symm
 have:pw a k=pw a (n*(k/n))*pw a (k%n):=by rw[←eU,←e]
 rw[this,dW,h,gO,one_mul]
theorem g8{a:K}{n k:Nat}(h:Ord a n)(hk:pw a k=1):n ∣ k:=by
 obtain⟨h1,h2,h3⟩:=h
 rw[Nat.dvd_iff_mod_eq_zero]
 apply Decidable.byContradiction
 intro hc
 exact h3 (k%n) (by omega) (Nat.mod_lt k h1) (by rw[sk h2,hk])
theorem Ir{a:K}{n k:Nat}(h:Ord a n):pw a k=1↔n ∣ k:=by
 refine⟨g8 h,?_⟩
 rintro⟨j,rfl⟩
 rw[dW,h.2.1,gO]
theorem Dr{a:K}{d n:Nat}(h:Ord a (d*n)):Ord (pw a d) n:=by
 obtain⟨h1,h2,h3⟩:=h
 have hd:0<d:=by
  rcases Nat.eq_zero_or_pos d with rfl|h'
  ·simp at h1
  ·exact h'
 have hn:0<n:=by
  rcases Nat.eq_zero_or_pos n with rfl|h'
  ·simp at h1
  ·exact h'
 refine⟨hn,by rw[←dW];exact h2,fun m hm hlt e=>?_⟩
 rw[←dW]at e
 exact h3 (d*m) (Nat.mul_pos hd hm) (Nat.mul_lt_mul_of_pos_left hlt hd) e
theorem Iv{a b:K}{m n:Nat}(ha:Ord a m)(hb:Ord b n)(hc:Nat.gcd m n=1):Ord (a*b) (m*n):=by
 refine⟨Nat.mul_pos ha.1 hb.1,?_,fun k hk hlt e=>?_⟩
 ·rw[oP,dW a m n,ha.2.1,gO,one_mul,Nat.mul_comm,dW,hb.2.1,gO]
 ·rw[oP]at e
  have e1:pw b (k*m)=1:=by
   have:pw (pw a k*pw b k) m=1:=by rw[e,gO]
   rw[oP,←dW,Nat.mul_comm k m,dW a m k,ha.2.1,gO,one_mul,←dW,Nat.mul_comm k m]at this
   rw[Nat.mul_comm];exact this
  have e2:pw a (k*n)=1:=by
   have:pw (pw a k*pw b k) n=1:=by rw[e,gO]
   rw[oP,←dW,←dW,Nat.mul_comm k n,dW b n k,hb.2.1,gO,mul_one,Nat.mul_comm n k]at this
   exact this
  have d1:n ∣ k:=Nat.Coprime.dvd_of_dvd_mul_right (show Nat.Coprime n m by rw[Nat.Coprime,Nat.gcd_comm];exact hc) (g8 hb e1)
  have d2:m ∣ k:=Nat.Coprime.dvd_of_dvd_mul_right (show Nat.Coprime m n from hc) (g8 ha e2)
  have:=Nat.le_of_dvd hk (Nat.Coprime.mul_dvd_of_dvd_of_dvd hc d2 d1)
  omega
structure Num (K:Type)[Fd K] where
 q:Nat
 val:K→Nat
 lt:∀x,val x<q
 inj:∀x y,val x=val y→x=y
 sur:∀i,i<q→∃x,val x=i
 v0:val 0=0
variable (N:Num K)
theorem Num.elems:∃l:List K,l.Nodup∧l.length=N.q-1∧(∀x,x ∈ l↔x≠0):=by
 have hf:∃f:Nat→K,∀i,i<N.q→N.val (f i)=i:=
  ⟨fun i=>if h:i<N.q then(N.sur i h).choose else 0,fun i h=>by simp only[h,dif_pos];exact(N.sur i h).choose_spec⟩
 obtain⟨f,hf⟩:=hf
 refine⟨(List.range (N.q-1)).map (fun i=>f (i+1)),gK ?_,by simp,fun x=>?_⟩
 ·intro i j hi hj e
  have h1:=hf (i+1) (by omega)
  have h2:=hf (j+1) (by omega)
  rw[e,h2]at h1
  omega
 ·constructor
  ·intro hm e
   obtain⟨i,hi,e2⟩:=List.mem_map.1 hm
   have hi0:i<N.q-1:=by simpa using hi
   have h1:=hf (i+1) (by omega)
   have e2:f (i+1)=x:=e2
   rw[e2,e,N.v0]at h1
   omega
  ·intro h
   have hv:N.val x≠0:=fun e=>h (N.inj x 0 (by rw[e,N.v0]))
   have hl:=N.lt x
   refine List.mem_map.2 ⟨N.val x-1,by simp;omega,?_⟩
   show f (N.val x-1+1)=x
   apply N.inj
   rw[hf _ (by omega)]
   omega
theorem Num.ord(a:K)(ha:a≠0):∃n,Ord a n∧n≤N.q-1:=by
 have hex:∃n,0<n∧pw a n=1∧n≤N.q-1:=by
  apply Classical.byContradiction
  intro hc
  obtain⟨l,_,hl,hmem⟩:=N.elems
  have hinj:∀i j,i<N.q→j<N.q→N.val (pw a i)=N.val (pw a j)→i=j:=by
   have key:∀i k,i+k<N.q→pw a i=pw a (i+k)→k=0:=by
    intro i k hk e
    rw[eU]at e
    have e2:pw a k=1:=by
     symm
     apply mul_left_cancel (bL ha i)
     rw[mul_one];exact e
    apply Decidable.byContradiction
    intro hk0
    exact hc ⟨k,by omega,e2,by omega⟩
   intro i j hi hj e
   have e:=N.inj _ _ e
   rcases Nat.le_total i j with h|h
   ·have:=key i (j-i) (by omega) (by rw[show i+(j-i)=j by omega];exact e);omega
   ·have:=key j (i-j) (by omega) (by rw[show j+(i-j)=i by omega];exact e.symm);omega
  have hlen:=lL N.q (0::(List.range N.q).map (fun i=>N.val (pw a i))) (List.nodup_cons.2 ⟨by
   intro hm
   obtain⟨i,_,e⟩:=List.mem_map.1 hm
   exact bL ha i (N.inj _ _ (by rw[N.v0];exact e)),gK hinj⟩) (by
   intro x hx
   rcases List.mem_cons.1 hx with rfl|hx
   ·exact Nat.lt_of_le_of_lt (Nat.zero_le _) (N.lt 0)
   ·obtain⟨i,_,rfl⟩:=List.mem_map.1 hx
    exact N.lt _)
  simp at hlen
  omega
 obtain⟨n,h1,h2,h3⟩:=hex
 obtain⟨m,hm1,⟨hm2,hm3⟩,hm4⟩:=least (P:=fun k=>0<k∧pw a k=1) n ⟨h1,h2⟩
 exact⟨m,⟨hm2,hm3,fun k hk hlt e=>hm4 k hlt ⟨hk,e⟩⟩,by omega⟩
theorem pS{m:Nat}(hm:0<m)(l:List K)(hn:l.Nodup)(h0:∀x ∈ l,x≠0)(h1:∀x ∈ l,pw x m=1):l.length≤m:=by
 apply Decidable.byContradiction
 intro hc
 have hp:dg (fun n=>if n=0 then(1:K) else if n=m then -1 else 0) m:=by
  intro i hi
  show(if i=0 then(1:K) else if i=m then -1 else 0)=0
  rw[if_neg (by omega),if_neg (by omega)]
 have hv:∀x,pw x m=1→pv (fun n=>if n=0 then(1:K) else if n=m then -1 else 0) m x=0:=by
  intro x hx
  unfold pv
  rw[bV]
  have e:sm m (fun i=>(if i=0 then(1:K) else if i=m then -1 else 0)*pw x i)=1:=by
   rw[jE (k:=0) hm (fun i hi h=>by rw[if_neg h,if_neg (by omega),zero_mul]),if_pos rfl,eK,mul_one]
  rw[e]
  show 1+(if m=0 then(1:K) else if m=m then -1 else 0)*pw x m=0
  rw[if_neg (by omega),if_pos rfl,hx,mul_one,add_neg]
 have hlen:(l.take m).length=m:=by simp;omega
 have hsub:∀x ∈ l.take m,x ∈ l:=fun x hx=>List.mem_of_mem_take hx
 have hinvn:((l.take m).map inv).Nodup:=by
  rw[List.nodup_iff_pairwise_ne,List.pairwise_map]
  refine List.Pairwise.imp_of_mem ?_ (List.nodup_iff_pairwise_ne.1 (hn.sublist (List.take_sublist m l)))
  intro a b ha hb hne e
  apply hne
  rw[←inv_inv (h0 a (hsub a ha)),e,inv_inv (h0 b (hsub b hb))]
 obtain⟨q,hq,hpq⟩:=jL ((l.take m).map inv) (l.take m) _ 0 (by simp) hinvn (fun i h h'=>by
  rw[List.getElem_map]
  exact inv_mul (h0 _ (hsub _ (List.getElem_mem h')))) (by rw[List.length_map,hlen];exact hp) (fun x hx=>by rw[List.length_map,hlen];exact hv x (h1 x (hsub x hx)))
 have hq0:q 0=1:=by
  have e:=congrFun hpq 0
  rw[nP,jY,one_mul]at e
  exact e.symm
 have hqs:q=s1:=by
  funext i
  unfold s1
  split
  ·rename_i h;rw[h];exact hq0
  ·exact hq i (by omega)
 rw[hqs,cX,fo]at hpq
 have hml:m<l.length:=by omega
 have hlast:=hv l[m] (h1 _ (List.getElem_mem hml))
 rw[hpq]at hlast
 have hnot:inv l[m] ∉ (l.take m).map inv:=by
  intro hm2
  obtain⟨x,hx,e⟩:=List.mem_map.1 hm2
  have e2:x=l[m]:=by rw[←inv_inv (h0 x (hsub x hx)),e,inv_inv (h0 _ (List.getElem_mem hml))]
  obtain⟨i,hi,e3⟩:=List.getElem_of_mem hx
  rw[List.getElem_take,e2]at e3
  have:=(List.getElem_inj hn).1 e3
  simp at hi
  omega
 have hne:=eF hnot (inv_mul (h0 _ (List.getElem_mem hml)))
 rw[List.length_map,hlen]at hne
 exact hne hlast
theorem Num.cyclic:∃g:K,g≠0∧Ord g (N.q-1):=by
 obtain⟨l,hn,hl,hmem⟩:=N.elems
 obtain⟨m,⟨a,ha,hm⟩,hmax⟩:=Fm (P:=fun n=>∃a:K,a≠0∧Ord a n) (N.q-1) (fun n ⟨a,ha,h⟩=>by
  obtain⟨k,hk,hle⟩:=N.ord a ha
  have:=Nat.le_of_dvd hk.1 (g8 h hk.2.1)
  omega) (n:=1) ⟨1,gM,by omega,by rw[mP],fun m h1 h2=>by omega⟩
 have hall:∀x:K,x≠0→pw x m=1:=by
  intro x hx
  obtain⟨k,hk,_⟩:=N.ord x hx
  apply Decidable.byContradiction
  intro hc
  have hnd:¬ k ∣ m:=fun hd=>hc ((Ir hk).2 hd)
  obtain⟨p,f,m',hp,h1,h2,j,h3⟩:=ux hk.1 hm.1 hnd
  have o1:Ord (pw a (p^f)) m':=Dr (by rw[←h1];exact hm)
  have o2:Ord (pw x j) (p^(f+1)):=Dr (by rw[Nat.mul_comm,←h3];exact hk)
  have hcop:Nat.gcd m' (p^(f+1))=1:=by rw[Nat.gcd_comm];exact oV (qY hp h2) _
  have o3:=Iv o1 o2 hcop
  have hle:=hmax _ ⟨_,mul_ne_zero (bL ha _) (bL hx _),o3⟩
  rw[h1,Nat.pow_succ,Nat.mul_comm (p^f) m',←Nat.mul_assoc]at hle
  have hpos:0<m'*p^f:=by rw[Nat.mul_comm,←h1];exact hm.1
  have h2p:=hp.1
  have:m'*p^f*2≤m'*p^f*p:=Nat.mul_le_mul_left _ h2p
  omega
 have hle:=pS hm.1 l hn (fun x hx=>(hmem x).1 hx) (fun x hx=>hall x ((hmem x).1 hx))
 obtain⟨k,hk,hk2⟩:=N.ord a ha
 have:=Nat.le_of_dvd hk.1 (g8 hm hk.2.1)
 have e:m=N.q-1:=by omega
 rw[e]at hm
 exact⟨a,ha,hm⟩
end
end Go.RS
namespace Go.RS
instance boolFd:Fd Bool where
 add:=xor
 mul:=and
 neg:=id
 zero:=false
 one:=true
 inv:=id
 add_assoc':=by decide
 add_comm':=by decide
 add_zero':=by decide
 add_neg':=by decide
 mul_assoc':=by decide
 mul_comm':=by decide
 mul_one':=by decide
 mul_add':=by decide
 mul_inv':=by decide
 one_ne':=by decide
 dec:=inferInstance
def bt(a:Nat):Ser Bool:=fun i=>a.testBit i
theorem qw{a b:Nat}(h:bt a=bt b):a=b:=Nat.eq_of_testBit_eq fun i=>congrFun h i
theorem FA(a b:Nat):bt (a ^^^ b)=fun i=>bt a i+bt b i:=by
 funext i;exact Nat.testBit_xor a b i
theorem lh{a d:Nat}(h:a<2^(d+1)):dg (bt a) d:=fun i hi=>Nat.testBit_lt_two_pow (Nat.lt_of_lt_of_le h (Nat.pow_le_pow_right (by omega) (by omega)))
theorem G5{a d:Nat}(h:dg (bt a) d):a<2^(d+1):=Nat.lt_pow_two_of_testBit a fun i hi=>h i (by omega)
def ofB:Nat→(Nat→Bool)→Nat
 | 0,_=>0
 | n+1,f=>ofB n f ||| (if f n=true then 2^n else 0)
theorem zY(f:Nat→Bool)(i:Nat):∀n,(ofB n f).testBit i=(decide (i<n)&&f i)
 | 0=>by simp[ofB]
 | n+1=>by
  rw[ofB,Nat.testBit_or,zY f i n]
  by_cases h:i=n
  ·subst h
   cases hf:f i<;>simp
  ·have h1:decide (i<n+1)=decide (i<n):=by rw[Bool.eq_iff_iff];simp;omega
   rw[h1]
   split
   ·rw[Nat.testBit_two_pow]
    have:decide (n=i)=false:=by simp;omega
    rw[this,Bool.or_false]
   ·simp
def cl(a b:Nat):Nat:=ofB (a+b+1) (cv (bt a) (bt b))
theorem FZ(a:Nat):a<2^(a+1):=Nat.lt_of_lt_of_le Nat.lt_two_pow_self (Nat.pow_le_pow_right (by omega) (by omega))
theorem jW(a b:Nat):bt (cl a b)=cv (bt a) (bt b):=by
 funext i
 show(ofB (a+b+1) (cv (bt a) (bt b))).testBit i=_
 rw[zY]
 by_cases h:i<a+b+1
 ·simp[h]
 ·rw[xA (lh (FZ a)) (lh (FZ b)) i (by omega)]
  simp[h];rfl
theorem ea(a b:Nat):cl a b=cl b a:=qw (by rw[jW,jW,cX])
theorem jR(a b c:Nat):cl (cl a b) c=cl a (cl b c):=qw (by rw[jW,jW,jW,jW,dO])
theorem jB(a b c:Nat):cl a (b ^^^ c)=cl a b ^^^ cl a c:=qw (by
 rw[jW,FA,FA,jW,jW];funext n;exact pW _ _ _ _)
theorem Gv(a b c:Nat):cl (a ^^^ b) c=cl a c ^^^ cl b c:=by rw[ea,jB,ea c a,ea c b]
theorem M6(k:Nat):bt (2^k)=sh k s1:=by
 funext i
 show(2^k).testBit i=_
 rw[Nat.testBit_two_pow]
 unfold sh s1
 by_cases h:k=i
 ·subst h;simp;rfl
 ·by_cases h2:k≤i
  ·rw[if_pos h2,if_neg (by omega)];simp[h];rfl
  ·rw[if_neg h2];simp[h];rfl
theorem fe(a k:Nat):cl a (2^k)=a <<< k:=qw (by
 rw[ea,jW,M6,FQ,fo]
 funext i
 show sh k (bt a) i=(a <<< k).testBit i
 rw[Nat.testBit_shiftLeft]
 by_cases h:k≤i
 ·rw[fw _ h];simp[h,bt]
 ·rw[kH _ (by omega)];simp[h];rfl)
theorem uP(a:Nat):cl a 1=a:=by have:=fe a 0;simpa using this
theorem SP:bt 0=fun _=>0:=by funext i;exact Nat.zero_testBit i
theorem fP(a:Nat):cl a 0=0:=qw (by rw[jW,SP,cv_null'])
where cv_null' {p:Ser Bool}:cv p (fun _=>0)=fun _=>0:=by funext n;exact dX fun i _=>mul_zero _
theorem fG{n:Nat}(h:n≠0):2^n.log2≤n:=Nat.log2_self_le h
theorem cV(n:Nat):n<2^(n.log2+1):=Nat.lt_log2_self
theorem ij{n:Nat}(h:n≠0):n.testBit n.log2=true:=by
 apply Decidable.byContradiction
 intro hc
 have hb:n.testBit n.log2=false:=by simpa using hc
 have:n<2^n.log2:=Nat.lt_pow_two_of_testBit n fun i hi=>by
  by_cases e:i=n.log2
  ·rw[e];exact hb
  ·exact Nat.testBit_lt_two_pow (Nat.lt_of_lt_of_le (cV n) (Nat.pow_le_pow_right (by omega) (by omega)))
 have:=fG h
 omega
theorem kb{n d:Nat}(h1:2^d≤n)(h2:n<2^(d+1)):n.log2=d:=by
 have hn:n≠0:=by have:0<2^d:=Nat.pow_pos (by omega);omega
 have h3:=fG hn
 have h4:=cV n
 have a:n.log2<d+1:=(Nat.pow_lt_pow_iff_right (by omega)).1 (Nat.lt_of_le_of_lt h3 h2)
 have b:d<n.log2+1:=(Nat.pow_lt_pow_iff_right (by omega)).1 (Nat.lt_of_le_of_lt h1 h4)
 omega
theorem ym{a b:Nat}(ha:a≠0)(hb:b≠0):(cl a b).testBit (a.log2+b.log2)=true:=by
 have:=congrFun (jW a b) (a.log2+b.log2)
 show bt (cl a b) (a.log2+b.log2)=true
 rw[this]
 unfold cv
 rw[jE (k:=a.log2) (by omega) (fun i hi hne=>by
  by_cases h:a.log2<i
  ·rw[lh (cV a) i h,zero_mul]
  ·rw[lh (cV b) _ (by omega),mul_zero])]
 rw[show a.log2+b.log2-a.log2=b.log2 by omega]
 show(a.testBit a.log2&&b.testBit b.log2)=true
 rw[ij ha,ij hb];rfl
theorem JT{a b:Nat}:cl a b<2^(a.log2+b.log2+1):=G5 (by
 rw[jW];exact xA (lh (cV a)) (lh (cV b)))
theorem qB{a b:Nat}(ha:a≠0)(hb:b≠0):cl a b≠0:=by
 intro h
 have:=ym ha hb
 rw[h,Nat.zero_testBit]at this
 cases this
theorem xk{a b:Nat}(ha:a≠0)(hb:b≠0):(cl a b).log2=a.log2+b.log2:=
 kb (Nat.ge_two_pow_of_testBit (ym ha hb)) JT
theorem mB{a b c:Nat}(h:a ^^^ b=c):a=c ^^^ b:=by rw[←h,Nat.xor_assoc,Nat.xor_self,Nat.xor_zero]
theorem DJ(q:Nat)(hq:q≠0):∀p,∃m r,r<2^q.log2∧p=cl q m ^^^ r:=by
 intro p
 induction p using Nat.strongRecOn with
 | _ p ih=>
  by_cases h:p<2^q.log2
  ·exact⟨0,p,h,by rw[fP,Nat.zero_xor]⟩
  ·have hp:p≠0:=by have:0<2^q.log2:=Nat.pow_pos (by omega);omega
   have hle:q.log2≤p.log2:=by
    have h1:=cV p
    have:2^q.log2<2^(p.log2+1):=by omega
    have:=(Nat.pow_lt_pow_iff_right (by omega:1<2)).1 this
    omega
   have hs:(q <<< (p.log2-q.log2)).log2=p.log2:=by
    rw[←fe,xk hq (Nat.pos_iff_ne_zero.1 (Nat.pow_pos (by omega))),kb (Nat.le_refl _) (Nat.pow_lt_pow_right (by omega) (by omega))];omega
   have hs0:q <<< (p.log2-q.log2)≠0:=by rw[←fe];exact qB hq (Nat.pos_iff_ne_zero.1 (Nat.pow_pos (by omega)))
   have hlt:p ^^^ q <<< (p.log2-q.log2)<2^p.log2:=Nat.lt_pow_two_of_testBit _ fun i hi=>by
    rw[Nat.testBit_xor]
    by_cases e:i=p.log2
    ·have:=ij hs0
     rw[hs]at this
     rw[e,ij hp,this];rfl
    ·have h1:=lh (cV p) i (by omega)
     have h2:=lh (cV (q <<< (p.log2-q.log2))) i (by omega)
     have h1:p.testBit i=false:=h1
     have h2:(q <<< (p.log2-q.log2)).testBit i=false:=h2
     rw[h1,h2];rfl
   obtain⟨m,r,hr,he⟩:=ih _ (Nat.lt_of_lt_of_le hlt (fG hp))
   refine⟨m ^^^ 2^(p.log2-q.log2),r,hr,?_⟩
   rw[jB,fe]
   conv=>lhs;rw[mB he]
   rw[Nat.xor_assoc,Nat.xor_comm r,←Nat.xor_assoc]
theorem uk{q m:Nat}(hq:q≠0)(h:cl q m<2^q.log2):m=0:=by
 apply Decidable.byContradiction
 intro hm
 have:=Nat.ge_two_pow_of_testBit (ym hq hm)
 have h2:2^q.log2≤2^(q.log2+m.log2):=Nat.pow_le_pow_right (by omega) (by omega)
 omega
theorem Gp{q m m' r r':Nat}(hq:q≠0)(hr:r<2^q.log2)(hr':r'<2^q.log2)(h:cl q m ^^^ r=cl q m' ^^^ r'):r=r':=by
 have e:cl q (m ^^^ m')=r ^^^ r':=by
  rw[jB]
  have h1:=mB h
  rw[h1,Nat.xor_assoc,Nat.xor_assoc,Nat.xor_comm r (cl q m'),←Nat.xor_assoc r',Nat.xor_comm r',←Nat.xor_assoc,←Nat.xor_assoc,Nat.xor_self,Nat.zero_xor,Nat.xor_comm]
 have hm:=uk hq (by rw[e];exact Nat.xor_lt_two_pow hr hr')
 rw[hm,fP]at e
 have:=mB e.symm
 rw[Nat.zero_xor]at this
 exact this
def Irr(p:Nat):Prop:=∀t,2≤t→2*t.log2≤p.log2→¬ ∃m,p=cl t m
theorem BG{p a b:Nat}(hi:Irr p)(ha:a<2^p.log2)(hb:b<2^p.log2)(hm:∃m,cl a b=cl p m):a=0∨b=0:=by
 apply Decidable.byContradiction
 intro hc
 have ha0:a≠0:=fun e=>hc (.inl e)
 have hb0:b≠0:=fun e=>hc (.inr e)
 have hp0:p≠0:=by
  rintro rfl
  have h:Nat.log2 0=0:=by decide
  rw[h]at ha;omega
 obtain⟨a',_,⟨h1,h2,m,h3⟩,hmin⟩:=least (P:=fun a=>a≠0∧a<2^p.log2∧∃m,cl a b=cl p m) a ⟨ha0,ha,hm⟩
 obtain⟨q,r,hr,he⟩:=DJ a' h1 p
 have hr0:r=0:=by
  apply Decidable.byContradiction
  intro hr0
  have hlt:r<a':=Nat.lt_of_lt_of_le hr (fG h1)
  refine hmin r hlt ⟨hr0,by omega,b ^^^ cl q m,?_⟩
  have e:r=p ^^^ cl a' q:=by rw[he,Nat.xor_comm (cl a' q) r,Nat.xor_assoc,Nat.xor_self,Nat.xor_zero]
  rw[jB,e,Gv,ea a' q,jR,h3,←jR,ea q p,jR]
 rw[hr0,Nat.xor_zero]at he
 have hq0:q≠0:=by rintro rfl;rw[fP]at he;exact hp0 he
 have hlog:=xk h1 hq0
 rw[←he]at hlog
 have ha2:2≤a':=by
  have:a'≠1:=by
   rintro rfl
   rw[ea,uP]at h3
   have:=uk hp0 (by rw[←h3];exact hb)
   rw[this,fP]at h3
   exact hb0 h3
  omega
 have hal:a'.log2<p.log2:=by
  have:=Nat.lt_of_le_of_lt (fG h1) h2
  exact(Nat.pow_lt_pow_iff_right (by omega:1<2)).1 this
 have hq2:2≤q:=by
  have:q≠1:=by
   rintro rfl
   have h:Nat.log2 1=0:=by decide
   omega
  omega
 rcases Nat.lt_or_ge p.log2 (2*a'.log2)with h|h
 ·exact hi q hq2 (by omega) ⟨a',by rw[ea];exact he⟩
 ·exact hi a' ha2 h ⟨q,he⟩
structure FD where
 q:Nat
 poly:Nat
def FD.Ok(f:FD):Prop:=(f.poly=0∧2<f.q∧f.q≤4096∧Pr f.q)∨(f.poly≠0∧2≤f.poly∧f.poly.log2≤12∧f.q=2^f.poly.log2∧Irr f.poly)
structure El (f:FD) where
 val:Nat
 lt:val<f.q
theorem El.ext{f:FD}{a b:El f}(h:a.val=b.val):a=b:=by
 cases a;cases b;simp at h;subst h;rfl
theorem nU{p:Nat}(h:2≤p):1≤p.log2:=by
 have h1:=cV p
 apply Decidable.byContradiction
 intro hc
 have:p.log2=0:=by omega
 rw[this]at h1
 omega
theorem FD.Ok.two{f:FD}(h:f.Ok):2≤f.q∧f.q≤4096:=by
 rcases h with ⟨_,h1,h2,_⟩|⟨_,h1,h2,h3,_⟩
 ·omega
 ·rw[h3]
  have:=nU h1
  have a:2^1≤2^f.poly.log2:=Nat.pow_le_pow_right (by omega) this
  have b:2^f.poly.log2≤2^12:=Nat.pow_le_pow_right (by omega) h2
  omega
theorem yD(p q:Nat)(hq:q≠0):∃r,r<2^q.log2∧∃m,p=cl q m ^^^ r:=by
 obtain⟨m,r,h1,h2⟩:=DJ q hq p;exact⟨r,h1,m,h2⟩
noncomputable def rm(p q:Nat):Nat:=if h:q≠0 then(yD p q h).choose else 0
theorem wg{q:Nat}(hq:q≠0)(p:Nat):rm p q<2^q.log2:=by
 unfold rm;rw[dif_pos hq];exact(yD p q hq).choose_spec.1
theorem qR{q:Nat}(hq:q≠0)(p:Nat):∃m,p=cl q m ^^^ rm p q:=by
 unfold rm;rw[dif_pos hq];exact(yD p q hq).choose_spec.2
theorem ri{q:Nat}(hq:q≠0){p r m:Nat}(hr:r<2^q.log2)(h:p=cl q m ^^^ r):rm p q=r:=by
 obtain⟨m',h'⟩:=qR hq p
 exact Gp hq (wg hq p) hr (h'.symm.trans h)
theorem uL{q:Nat}(hq:q≠0)(p m:Nat):rm (p ^^^ cl q m) q=rm p q:=by
 obtain⟨m',h'⟩:=qR hq p
 refine ri hq (wg hq p) (m:=m' ^^^ m) ?_
 rw[jB]
 conv=>lhs;rw[h']
 rw[Nat.xor_assoc,Nat.xor_comm (rm p q),Nat.xor_assoc]
theorem gV{q r:Nat}(hq:q≠0)(hr:r<2^q.log2):rm r q=r:=ri hq hr (m:=0) (by rw[fP,Nat.zero_xor])
theorem Dk{q:Nat}(hq:q≠0)(a b:Nat):rm (a ^^^ b) q=rm a q ^^^ rm b q:=by
 obtain⟨m,h⟩:=qR hq a
 obtain⟨m',h'⟩:=qR hq b
 refine ri hq (Nat.xor_lt_two_pow (wg hq a) (wg hq b)) (m:=m ^^^ m') ?_
 rw[jB]
 conv=>lhs;rw[h,h']
 rw[Nat.xor_assoc,Nat.xor_assoc,←Nat.xor_assoc (rm a q),Nat.xor_comm (rm a q),Nat.xor_assoc (cl q m')]
theorem tY{q:Nat}(hq:q≠0)(a b:Nat):rm (cl (rm a q) b) q=rm (cl a b) q:=by
 obtain⟨m,h⟩:=qR hq a
 have e:cl a b=cl (rm a q) b ^^^ cl q (cl m b):=by
  conv=>lhs;rw[h]
  rw[Gv,jR,Nat.xor_comm]
 rw[e,uL hq]
theorem HT{q:Nat}(hq:q≠0)(a b:Nat):rm (cl a (rm b q)) q=rm (cl a b) q:=by rw[ea,tY hq,ea]
noncomputable def eJ(f:FD)(a b:Nat):Nat:=if f.poly=0 then(a+b)%f.q else a ^^^ b
noncomputable def dw(f:FD)(a b:Nat):Nat:=if f.poly=0 then a*b%f.q else rm (cl a b) f.poly
def q9(f:FD)(a:Nat):Nat:=if f.poly=0 then(f.q-a)%f.q else a
theorem zS{f:FD}(h:f.Ok){a b:Nat}(ha:a<f.q)(hb:b<f.q):eJ f a b<f.q:=by
 unfold eJ
 rcases h with ⟨h0,h1,_⟩|⟨h0,h1,h2,h3,_⟩
 ·rw[if_pos h0];exact Nat.mod_lt _ (by omega)
 ·rw[if_neg h0,h3];exact Nat.xor_lt_two_pow (by rw[←h3];exact ha) (by rw[←h3];exact hb)
theorem A7{f:FD}(h:f.Ok)(a b:Nat):dw f a b<f.q:=by
 unfold dw
 rcases h with ⟨h0,h1,_⟩|⟨h0,h1,h2,h3,_⟩
 ·rw[if_pos h0];exact Nat.mod_lt _ (by omega)
 ·rw[if_neg h0,h3];exact wg h0 _
theorem zJ{f:FD}(h:f.Ok){a:Nat}(ha:a<f.q):q9 f a<f.q:=by
 unfold q9
 have:=h.two
 split
 ·exact Nat.mod_lt _ (by omega)
 ·exact ha
theorem Bs(f:FD)(a b:Nat):dw f a b=dw f b a:=by
 unfold dw;rw[Nat.mul_comm,ea]
theorem xf{f:FD}(h:f.Ok)(a b c:Nat):dw f (dw f a b) c=dw f a (dw f b c):=by
 unfold dw
 rcases h with ⟨h0,h1,_⟩|⟨h0,h1,h2,h3,_⟩
 ·rw[if_pos h0,if_pos h0,if_pos h0,if_pos h0,Nat.mod_mul_mod,Nat.mul_mod_mod,Nat.mul_assoc]
 ·rw[if_neg h0,if_neg h0,if_neg h0,if_neg h0,tY h0,HT h0,jR]
theorem pU{f:FD}(h:f.Ok)(a b c:Nat):dw f a (eJ f b c)=eJ f (dw f a b) (dw f a c):=by
 unfold dw eJ
 rcases h with ⟨h0,h1,_⟩|⟨h0,h1,h2,h3,_⟩
 ·simp only[if_pos h0]
  rw[Nat.mul_mod_mod,Nat.mul_add,←Nat.add_mod]
 ·simp only[if_neg h0]
  rw[jB,Dk h0]
theorem xu{p a b:Nat}(hp:Pr p)(h:p ∣ a*b):p ∣ a∨p ∣ b:=by
 by_cases ha:p ∣ a
 ·exact .inl ha
 ·exact .inr (Nat.Coprime.dvd_of_dvd_mul_left (qY hp ha) h)
theorem tX{f:FD}(h:f.Ok){a b:Nat}(ha:a<f.q)(hb:b<f.q)(e:dw f a b=0):a=0∨b=0:=by
 unfold dw at e
 rcases h with ⟨h0,h1,_,hp⟩|⟨h0,h1,h2,h3,hi⟩
 ·rw[if_pos h0]at e
  have hd:=Nat.dvd_of_mod_eq_zero e
  rcases xu hp hd with h|h
  ·left
   apply Decidable.byContradiction
   intro hc
   have:=Nat.le_of_dvd (by omega) h
   omega
  ·right
   apply Decidable.byContradiction
   intro hc
   have:=Nat.le_of_dvd (by omega) h
   omega
 ·rw[if_neg h0]at e
  obtain⟨m,hm⟩:=qR h0 (cl a b)
  rw[e,Nat.xor_zero]at hm
  exact BG hi (by rw[←h3];exact ha) (by rw[←h3];exact hb) ⟨m,hm⟩
theorem mr{f:FD}(h:f.Ok){a:Nat}(ha:a<f.q):eJ f a (q9 f a)=0:=by
 unfold eJ q9
 rcases h with ⟨h0,h1,_⟩|⟨h0,h1,h2,h3,_⟩
 ·rw[if_pos h0,if_pos h0,Nat.add_mod_mod,show a+(f.q-a)=f.q by omega,Nat.mod_self]
 ·rw[if_neg h0,if_neg h0,Nat.xor_self]
theorem mR(f:FD)(a b c:Nat):eJ f (eJ f a b) c=eJ f a (eJ f b c):=by
 unfold eJ
 split
 ·rw[Nat.mod_add_mod,Nat.add_mod_mod,Nat.add_assoc]
 ·rw[Nat.xor_assoc]
theorem gh(f:FD)(a b:Nat):eJ f a b=eJ f b a:=by
 unfold eJ;rw[Nat.add_comm,Nat.xor_comm]
theorem oD{f:FD}(h:f.Ok){a:Nat}(ha:a<f.q):eJ f a 0=a:=by
 unfold eJ
 split
 ·rw[Nat.add_zero,Nat.mod_eq_of_lt ha]
 ·rw[Nat.xor_zero]
theorem CO{f:FD}(h:f.Ok){a:Nat}(ha:a<f.q):dw f a 1=a:=by
 unfold dw
 rcases h with ⟨h0,h1,_⟩|⟨h0,h1,h2,h3,_⟩
 ·rw[if_pos h0,Nat.mul_one,Nat.mod_eq_of_lt ha]
 ·rw[if_neg h0,uP,gV h0 (by rw[←h3];exact ha)]
theorem At{f:FD}(h:f.Ok)(a:Nat):dw f a 0=0:=by
 unfold dw
 rcases h with ⟨h0,h1,_⟩|⟨h0,h1,h2,h3,_⟩
 ·rw[if_pos h0];simp
 ·rw[if_neg h0,fP,gV h0 (Nat.pow_pos (by omega))]
theorem uo{f:FD}(h:f.Ok){a b c:Nat}(ha:a<f.q)(hb:b<f.q)(hc:c<f.q)(e:eJ f a b=eJ f a c):b=c:=by
 have:eJ f (q9 f a) (eJ f a b)=eJ f (q9 f a) (eJ f a c):=by rw[e]
 rw[←mR,←mR,gh f (q9 f a),mr h ha,gh f 0,gh f 0,oD h hb,oD h hc]at this
 exact this
theorem sx{f:FD}(h:f.Ok){a:Nat}(ha:a<f.q)(h0:a≠0):∃b,b<f.q∧dw f a b=1:=by
 refine og (fun i _=>A7 h a i) (fun i j hi hj e=>?_) (by have:=h.two;omega)
 have hn:=zJ h hj
 have e2:dw f a (eJ f i (q9 f j))=0:=by
  rw[pU h,e,←pU h,mr h hj,At h]
 rcases tX h ha (zS h hi hn) e2 with h1|h1
 ·exact absurd h1 h0
 ·apply uo h hn hi hj
  rw[gh f _ i,h1,gh f _ j,mr h hj]
@[reducible] noncomputable def FD.Ok.fd{f:FD}(h:f.Ok):Fd (El f) where
 add a b:=⟨eJ f a.val b.val,zS h a.lt b.lt⟩
 mul a b:=⟨dw f a.val b.val,A7 h _ _⟩
 neg a:=⟨q9 f a.val,zJ h a.lt⟩
 zero:=⟨0,by have:=h.two;omega⟩
 one:=⟨1,by have:=h.two;omega⟩
 inv a:=if e:a.val≠0 then⟨(sx h a.lt e).choose,(sx h a.lt e).choose_spec.1⟩ else a
 add_assoc' a b c:=El.ext (mR f _ _ _)
 add_comm' a b:=El.ext (gh f _ _)
 add_zero' a:=El.ext (oD h a.lt)
 add_neg' a:=El.ext (mr h a.lt)
 mul_assoc' a b c:=El.ext (xf h _ _ _)
 mul_comm' a b:=El.ext (Bs f _ _)
 mul_one' a:=El.ext (CO h a.lt)
 mul_add' a b c:=El.ext (pU h _ _ _)
 mul_inv' a ha:=by
  have e:a.val≠0:=fun e=>ha (El.ext e)
  apply El.ext
  simp only[dif_pos e]
  exact(sx h a.lt e).choose_spec.2
 one_ne':=by intro e;have:=congrArg El.val e;simp at this
 dec a b:=if e:a.val=b.val then isTrue (El.ext e) else isFalse fun e2=>e (by rw[e2])
noncomputable def FD.Ok.num{f:FD}(h:f.Ok):@Num (El f) h.fd:=@Num.mk (El f) h.fd f.q El.val El.lt (fun _ _=>El.ext) (fun i hi=>⟨⟨i,hi⟩,rfl⟩) rfl
end Go.RS
namespace Go.RS
class OkC (f:FD):Prop where
 ok:f.Ok
noncomputable instance {f:FD}[h:OkC f]:Fd (El f):=h.ok.fd
section
variable {f:FD}[OkC f]
theorem jZ:(0:El f).val=0:=rfl
theorem Es:(1:El f).val=1:=rfl
theorem val_mul(a b:El f):(a*b).val=dw f a.val b.val:=rfl
theorem val_add(a b:El f):(a+b).val=eJ f a.val b.val:=rfl
theorem eH{a:El f}(h:a≠0):a.val≠0:=fun e=>h (El.ext e)
theorem cm{a:El f}(h:a.val=0):a=0:=El.ext h
end
section
variable {K:Type}[Fd K]
theorem p0{g:K}{n:Nat}(hg:g≠0)(h:Ord g n):∀i j,i<n→j<n→pw g i=pw g j→i=j:=by
 have key:∀i k,i+k<n→pw g i=pw g (i+k)→k=0:=by
  intro i k hk e
  rw[eU]at e
  have e2:pw g k=1:=by
   symm
   apply mul_left_cancel (bL hg i)
   rw[mul_one];exact e
  apply Decidable.byContradiction
  intro hk0
  exact h.2.2 k (by omega) (by omega) e2
 intro i j hi hj e
 rcases Nat.le_total i j with h|h
 ·have:=key i (j-i) (by omega) (by rw[show i+(j-i)=j by omega];exact e);omega
 ·have:=key j (i-j) (by omega) (by rw[show j+(i-j)=i by omega];exact e.symm);omega
theorem Num.pow_sur(N:Num K){g:K}(hg:g≠0)(h:Ord g (N.q-1)){x:K}(hx:x≠0):∃n,n<N.q-1∧pw g n=x:=by
 have hv:∀{y:K},y≠0→N.val y≠0:=fun hy e=>hy (N.inj _ 0 (by rw[e,N.v0]))
 obtain⟨n,hn,e⟩:=og (q:=N.q-1) (f:=fun i=>N.val (pw g i)-1) (fun i hi=>by
   have h1:=N.lt (pw g i)
   have h2:=hv (bL hg i)
   omega) (fun i j hi hj e=>by
   have h1:=hv (bL hg i)
   have h2:=hv (bL hg j)
   exact p0 hg h i j hi hj (N.inj _ _ (by omega))) (y:=N.val x-1) (by
   have h1:=N.lt x
   have h2:=hv hx
   omega)
 refine⟨n,hn,N.inj _ _ ?_⟩
 have h1:=hv (bL hg n)
 have h2:=hv hx
 omega
end
section
variable {f:FD}[OkC f]
theorem pow_sur{g:El f}(hg:g≠0)(h:Ord g (f.q-1)){x:El f}(hx:x≠0):∃n,n<f.q-1∧pw g n=x:=Num.pow_sur (OkC.ok (f:=f)).num hg h hx
end
section
variable {K:Type}[Fd K]
theorem Fz{g:K}{n k m:Nat}(h:pw g n=1)(hk:k+m=n):inv (pw g k)=pw g m:=by
 apply lH
 rw[←eU,hk,h]
theorem E7{g:K}{n i j:Nat}(h:Ord g n)(hi:i<n)(hj:j<n):pw g ((i+n-j)%n)=pw g i*inv (pw g j):=by
 rw[sk h.2.1,Fz (m:=n-j) h.2.1 (by omega),←eU,show i+n-j=i+(n-j) by omega]
theorem AN{g:K}{n i j:Nat}(h:Ord g n):pw g ((i+j)%n)=pw g i*pw g j:=by
 rw[sk h.2.1,eU]
end
end Go.RS
namespace Go.RS
section
variable {K:Type}[Fd K]
def co(l:List K):Ser K:=fun i=>l.getD i 0
def tab(n:Nat)(F:Nat→K):List K:=(List.range n).map F
theorem aE(n:Nat)(F:Nat→K):(tab n F).length=n:=by simp[tab]
theorem oT{l:List K}{i:Nat}(h:i<l.length):co l i=l[i]:=by
 unfold co;rw[List.getD_eq_getElem?_getD,List.getElem?_eq_getElem h];rfl
theorem eT{l:List K}{i:Nat}(h:l.length≤i):co l i=0:=by
 unfold co;rw[List.getD_eq_getElem?_getD,List.getElem?_eq_none h];rfl
theorem de{n:Nat}{F:Nat→K}{i:Nat}(h:i<n):(tab n F).getD i 0=F i:=by
 simp[tab,List.getD_eq_getElem?_getD,h]
theorem bS(n:Nat)(F:Nat→K)(i:Nat):co (tab n F) i=if i<n then F i else 0:=by
 split
 ·rename_i h;exact de h
 ·rename_i h;exact eT (by rw[aE];omega)
theorem aP{n:Nat}{F G:Nat→K}(h:∀i,i<n→F i=G i):tab n F=tab n G:=by
 unfold tab
 apply List.map_congr_left
 intro i hi
 exact h i (by simpa using hi)
theorem uV(l:List K):tab l.length (co l)=l:=by
 apply List.ext_getElem (by rw[aE])
 intro i h1 h2
 simp only[tab,List.getElem_map,List.getElem_range]
 exact oT h2
theorem eQ{n:Nat}{F:Nat→K}{k:Nat}{v:K}:(tab n F).set k v=tab n (fun i=>if i=k then v else F i):=by
 apply List.ext_getElem
 ·simp[tab]
 ·intro i h1 h2
  rw[List.getElem_set]
  simp only[tab,List.getElem_map,List.getElem_range]
  split
  ·rename_i h;rw[if_pos h.symm]
  ·rename_i h;rw[if_neg (fun e=>h e.symm)]
theorem dK(n:Nat):List.replicate n (0:K)=tab n (fun _=>0):=by
 apply List.ext_getElem
 ·simp[tab]
 ·intro i h1 h2;simp[tab]
theorem CJ{n:Nat}{F:Nat→K}{l:List K}(h:l.length=n)(h2:∀i,i<n→co l i=F i):l=tab n F:=by
 rw[←uV l,h];exact aP h2
theorem zh{l m:List K}(h:l.length=m.length)(h2:∀i,i<l.length→co l i=co m i):l=m:=by
 rw[←uV l,←uV m,h];exact aP (by rw[←h];exact h2)
theorem P9(l:List K):dg (co l) (l.length-1):=fun i hi=>eT (by omega)
def hor(l:List K)(x:K):K:=l.foldr (fun c v=>v*x+c) 0
theorem uI(x:K):∀l:List K,hor l x=sm l.length (fun i=>co l i*pw x i)
 | []=>rfl
 | c::l=>by
  show hor l x*x+c=_
  rw[List.length_cons,gn,uI x l,nN]
  have e0:co (c::l) 0*pw x 0=c:=mul_one c
  rw[e0,add_comm]
  congr 1
  refine ag fun i hi=>?_
  show co l i*pw x i*x=co l i*(pw x i*x)
  rw[mul_assoc]
theorem zA{l:List K}{d:Nat}(h:dg (co l) d)(x:K):hor l x=pv (co l) d x:=by
 rw[uI]
 unfold pv
 rcases Nat.le_total l.length (d+1)with h1|h1
 ·exact(fV h1 fun i a b=>by rw[eT a,zero_mul]).symm
 ·exact fV h1 fun i a b=>by rw[h i (by omega),zero_mul]
def cZ(l:List K)(x:K):K:=l.foldl (fun v c=>v*x+c) 0
theorem uy(l m:List K)(x:K):cZ (l++m) x=m.foldl (fun v c=>v*x+c) (cZ l x):=by
 unfold cZ;rw[List.foldl_append]
theorem kr{l:List K}{i:Nat}(h:i<l.length)(x:K):cZ (l.take (i+1)) x=cZ (l.take i) x*x+co l i:=by
 rw[List.take_add_one,List.getElem?_eq_getElem h,uy]
 show _*x+l[i]=_
 rw[oT h]
theorem Cr(l:List K)(x:K):cZ l x=hor l.reverse x:=by
 unfold cZ hor;rw[List.foldr_reverse]
theorem zI(x:K):∀l:List K,cZ l x=sm l.length (fun i=>co l i*pw x (l.length-1-i)):=by
 intro l
 rw[Cr,uI,List.length_reverse,sv]
 refine ag fun i hi=>?_
 have:co l.reverse (l.length-1-i)=co l i:=by
  rw[oT (by rw[List.length_reverse];omega),oT hi,List.getElem_reverse]
  congr 1
  omega
 rw[this]
def rows(p q:Ser K)(i k:Nat):K:=sm i (fun a=>p a*sh a q k)
theorem ze{p q:Ser K}{n:Nat}(hp:∀i,n≤i→p i=0)(k:Nat):rows p q n k=cv p q k:=by
 unfold rows cv
 have e1:sm (max n (k+1)) (fun a=>p a*sh a q k)=sm n (fun a=>p a*sh a q k):=fV (by omega) fun i h1 h2=>by rw[hp i h1,zero_mul]
 have e2:sm (max n (k+1)) (fun a=>p a*sh a q k)=sm (k+1) (fun a=>p a*sh a q k):=fV (by omega) fun i h1 h2=>by rw[kH _ (by omega),mul_zero]
 rw[←e1,e2]
 exact ag fun i hi=>by rw[fw _ (by omega)]
theorem rQ(p q:Ser K)(i k:Nat):rows p q (i+1) k=rows p q i k+p i*sh i q k:=rfl
def bml(s:Ser K):Nat→Nat×Nat
 | 0=>(1,1)
 | n+1=>if cv (Reg.run s n).C s n=0 then bml s n
  else(max (bml s n).1 ((bml s n).2+(Reg.run s n).m),if 2*(Reg.run s n).L≤n then(bml s n).1 else(bml s n).2)
theorem mZ(s:Ser K):∀n,(∀i,(bml s n).1≤i→(Reg.run s n).C i=0)∧(∀i,(bml s n).2≤i→(Reg.run s n).B i=0)∧1≤(bml s n).1
 | 0=>by
  refine⟨fun i hi=>?_,fun i hi=>?_,Nat.le_refl _⟩
  ·show(s1:Ser K) i=0
   unfold s1;rw[if_neg (by simp[bml]at hi;omega)]
  ·show(s1:Ser K) i=0
   unfold s1;rw[if_neg (by simp[bml]at hi;omega)]
 | n+1=>by
  obtain⟨h1,h2,h3⟩:=mZ s n
  simp only[bml,Reg.run,Reg.next]
  split
  ·exact⟨h1,h2,h3⟩
  ·have hC:∀i,max (bml s n).1 ((bml s n).2+(Reg.run s n).m)≤i→(Reg.run s n).C i-cv (Reg.run s n).C s n*inv (Reg.run s n).b*sh (Reg.run s n).m (Reg.run s n).B i=0:=by
    intro i hi
    rw[h1 i (by omega),fw _ (by omega),h2 (i-(Reg.run s n).m) (by omega),mul_zero]
    exact(show(0-0)=0 from aj [((1:K))] (.add .zero (.neg .zero)) .zero rfl)
   split
   ·exact⟨hC,h1,by simp only;omega⟩
   ·exact⟨hC,h2,by simp only;omega⟩
def trim:List K→List K
 | []=>[]
 | a::l=>match trim l with
  | []=>if a=0 then[] else[a]
  | m=>a::m
theorem km:∀l:List K,trim (l++[0])=trim l
 | []=>by simp[trim]
 | a::l=>by simp only[List.cons_append,trim,km l]
theorem mf{b:K}(hb:b≠0):∀l:List K,trim (l++[b])=l++[b]
 | []=>by simp[trim,hb]
 | a::l=>by
  simp only[List.cons_append,trim,mf hb l]
  split
  ·rename_i h;simp at h
  ·rfl
theorem lT{l:List K}:∀{n:Nat},n≤l.length→(∀i,n≤i→co l i=0)→trim (l.take n)=trim l:=by
 intro n hn hz
 have key:∀k,n+k≤l.length→trim (l.take (n+k))=trim (l.take n):=by
  intro k
  induction k with
  | zero=>intro _;rfl
  | succ k ih=>
   intro hk
   rw[←Nat.add_assoc,List.take_add_one,List.getElem?_eq_getElem (show n+k<l.length by omega)]
   have:l[n+k]=0:=by rw[←oT (show n+k<l.length by omega)];exact hz _ (by omega)
   rw[this,Option.toList_some,km,ih (by omega)]
 have:=key (l.length-n) (by omega)
 rw[show n+(l.length-n)=l.length by omega,List.take_length]at this
 exact this.symm
theorem oG{l:List K}{n:Nat}(hn:n<l.length)(h:co l n≠0):trim (l.take (n+1))=l.take (n+1):=by
 rw[List.take_add_one,List.getElem?_eq_getElem hn,Option.toList_some]
 exact mf (by rw[←oT hn];exact h) _
theorem gU:∀(l:List K) (i:Nat),co (trim l) i=co l i
 | [],_=>rfl
 | a::l,i=>by
  have ih:=gU l
  simp only[trim]
  split
  ·rename_i h
   rw[h]at ih
   split
   ·rename_i ha
    cases i with
    | zero=>rw[ha];rfl
    | succ i=>exact ih i
   ·cases i with
    | zero=>rfl
    | succ i=>exact ih i
  ·cases i with
   | zero=>rfl
   | succ i=>exact ih i
theorem ic:∀l:List K,(trim l).length≤l.length
 | []=>Nat.le_refl _
 | a::l=>by
  have:=ic l
  simp only[trim]
  split
  ·split<;>simp
  ·simpa using this
theorem nG:∀l:List K,trim l≠[]→co l ((trim l).length-1)≠0
 | [],h=>absurd rfl h
 | a::l,h=>by
  have ih:=nG l
  simp only[trim]at h ⊢
  split at h
  ·rename_i ht
   split at h
   ·exact absurd rfl h
   ·rename_i ha;simp only[if_neg ha];exact ha
  ·rename_i hm
   have hne:trim l≠[]:=fun e=>hm e
   have:=ih hne
   show co (a::l) ((a::trim l).length-1)≠0
   have hpos:0<(trim l).length:=List.length_pos_iff.2 hne
   rw[List.length_cons,show(trim l).length+1-1=((trim l).length-1)+1 by omega]
   exact this
end
end Go.RS
namespace Go.RS
section
variable {K:Type}[Fd K]
def mon(r:K):Ser K:=fun n=>if n=0 then-r else if n=1 then 1 else 0
theorem CZ(r:K):dg (mon r) 1:=by
 intro i hi
 unfold mon
 rw[if_neg (by omega),if_neg (by omega)]
theorem wA(r:K)(p:Ser K):cv p (mon r) 0=- (p 0*r):=by
 rw[nP]
 show p 0*- r=_
 rw[mul_neg]
theorem yd(r:K)(p:Ser K)(n:Nat):cv p (mon r) (n+1)=p n-p (n+1)*r:=by
 rw[cX]
 unfold cv
 rw[gn,gn,dX (n:=n) (fun i _=>by unfold mon;rw[if_neg (by omega),if_neg (by omega),zero_mul])]
 show-r*p (n+1)+(1*p n+0)=_
 exact(show(((-r)*(p (n+1)))+((1*(p n))+0))=((p n)-((p (n+1))*r)) from aj [r,(p (n+1)),(p n)] (.add (.mul (.neg (.v 0)) (.v 1)) (.add (.mul .one (.v 2)) .zero)) (.add (.v 2) (.neg (.mul (.v 1) (.v 0)))) rfl)
def gp(rs:Nat→K):Nat→Ser K
 | 0=>s1
 | n+1=>cv (gp rs n) (mon (rs n))
theorem sZ(rs:Nat→K):∀n,dg (gp rs n) n
 | 0=>zO
 | n+1=>xA (sZ rs n) (CZ _)
theorem De(rs:Nat→K):∀n,gp rs n n=1
 | 0=>rfl
 | n+1=>by
  show cv (gp rs n) (mon (rs n)) (n+1)=1
  rw[yd,De rs n,sZ rs n (n+1) (by omega),zero_mul]
  exact(show(1-0)=1 from aj [((1:K))] (.add .one (.neg .zero)) .one rfl)
def oy(rs:Nat→K)(n:Nat):List K:=tab (n+1) (gp rs n)
theorem pt(rs:Nat→K)(n:Nat):(oy rs n).length=n+1:=aE _ _
theorem uQ(rs:Nat→K)(n:Nat):co (oy rs n)=gp rs n:=by
 funext i
 unfold oy
 rw[bS]
 split
 ·rfl
 ·exact(sZ rs n i (by omega)).symm
theorem ud{rs rs':Nat→K}:∀{n:Nat},(∀i,i<n→rs i=rs' i)→gp rs n=gp rs' n
 | 0,_=>rfl
 | n+1,h=>by rw[gp,gp,ud (fun i hi=>h i (by omega)),h n (by omega)]
theorem KP(r x:K):pv (mon r) 1 x=x-r:=by
 unfold pv
 rw[bV,xz]
 show-r*1+1*pw x 1=_
 rw[mP]
 exact(show(((-r)*1)+(1*x))=(x-r) from aj [r,x] (.add (.mul (.neg (.v 0)) .one) (.mul .one (.v 1))) (.add (.v 1) (.neg (.v 0))) rfl)
theorem p7(rs:Nat→K):∀n i,i<n→pv (gp rs n) n (rs i)=0
 | 0,i,h=>by omega
 | n+1,i,h=>by
  have:=kI (sZ rs n) (CZ (rs n)) (rs i)
  show pv (cv (gp rs n) (mon (rs n))) (n+1) (rs i)=0
  rw[this,KP]
  by_cases e:i=n
  ·rw[e,sub_self,mul_zero]
  ·rw[p7 rs n i (by omega),zero_mul]
end
end Go.RS
namespace Go.RS
section
variable {K:Type}[Fd K]
def Hj(rt:Nat→K)(r:Nat)(w:List K):Prop:=∀i,i<r→cZ w (rt i)=0
theorem rF{p:Ser K}{m:Nat}{xs:List K}(hp:dg p m)(hl:xs.length=m+1)(hn:xs.Nodup)(h0:∀x ∈ xs,x≠0)(hr:∀x ∈ xs,pv p m x=0):∀i,p i=0:=by
 have hlen:(xs.take m).length=m:=by simp;omega
 have hsub:∀x ∈ xs.take m,x ∈ xs:=fun x hx=>List.mem_of_mem_take hx
 have hinvn:((xs.take m).map inv).Nodup:=by
  rw[List.nodup_iff_pairwise_ne,List.pairwise_map]
  refine List.Pairwise.imp_of_mem ?_ (List.nodup_iff_pairwise_ne.1 (hn.sublist (List.take_sublist m xs)))
  intro a b ha hb hne e
  apply hne
  rw[←inv_inv (h0 a (hsub a ha)),e,inv_inv (h0 b (hsub b hb))]
 obtain⟨q,hq,hpq⟩:=jL ((xs.take m).map inv) (xs.take m) p 0 (by simp) hinvn (fun i h h'=>by
  rw[List.getElem_map]
  exact inv_mul (h0 _ (hsub _ (List.getElem_mem h')))) (by rw[List.length_map,hlen];exact hp) (fun x hx=>by rw[List.length_map,hlen];exact hr x (hsub x hx))
 have hm:m<xs.length:=by omega
 have hnot:inv xs[m] ∉ (xs.take m).map inv:=by
  intro hm2
  obtain⟨x,hx,e⟩:=List.mem_map.1 hm2
  have e2:x=xs[m]:=by rw[←inv_inv (h0 x (hsub x hx)),e,inv_inv (h0 _ (List.getElem_mem hm))]
  obtain⟨i,hi,e3⟩:=List.getElem_of_mem hx
  rw[List.getElem_take,e2]at e3
  have:=(List.getElem_inj hn).1 e3
  simp at hi
  omega
 have hne:=eF hnot (inv_mul (h0 _ (List.getElem_mem hm)))
 rw[List.length_map,hlen]at hne
 have hdl:=dS ((xs.take m).map inv)
 rw[List.length_map,hlen]at hdl
 have hv:=kI hdl hq xs[m]
 rw[←hpq,Nat.add_zero,hr _ (List.getElem_mem hm)]at hv
 have hq0:q 0=0:=by
  rcases mul_eq_zero hv.symm with h|h
  ·exact absurd h hne
  ·unfold pv at h
   rw[xz,eK,mul_one]at h
   exact h
 intro i
 rw[hpq]
 refine dX fun j hj=>?_
 by_cases e:i-j=0
 ·rw[e,hq0,mul_zero]
 ·rw[hq (i-j) (by omega),mul_zero]
theorem vG(w:List K)(x:K):cZ w x=sm w.length (fun j=>co w (w.length-1-j)*pw x j):=by
 rw[zI,sv]
 refine ag fun i hi=>?_
 rw[show w.length-1-(w.length-1-i)=i by omega]
theorem HN{rt:Nat→K}{r:Nat}{w w':List K}(hr:1≤r)(hd:∀i j,i<r→j<r→rt i=rt j→i=j)(h0:∀i,i<r→rt i≠0)(hw:Hj rt r w)(hw':Hj rt r w')(hl:w.length=w'.length)(hlr:r≤w.length)(hp:∀i,i<w.length-r→co w i=co w' i):w=w':=by
 have hz:=rF (p:=fun j=>if j<r then co w (w.length-1-j)-co w' (w.length-1-j) else 0) (m:=r-1) (xs:=(List.range r).map rt)
  (fun i hi=>if_neg (by omega)) (by simp;omega) (by
   rw[List.nodup_iff_pairwise_ne,List.pairwise_map]
   refine List.Pairwise.imp_of_mem ?_ (List.nodup_iff_pairwise_ne.1 List.nodup_range)
   intro a b ha hb hne e
   exact hne (hd a b (by simpa using ha) (by simpa using hb) e)) (by
   intro x hx
   obtain⟨i,hi,rfl⟩:=List.mem_map.1 hx
   exact h0 i (by simpa using hi)) (by
   intro x hx
   obtain⟨i,hi,rfl⟩:=List.mem_map.1 hx
   have hi:i<r:=by simpa using hi
   have e1:=hw i hi
   have e2:=hw' i hi
   rw[vG]at e1 e2
   have e3:sm w.length (fun j=>(if j<r then co w (w.length-1-j)-co w' (w.length-1-j) else 0)*pw (rt i) j)=0:=by
    have:sm w.length (fun j=>(if j<r then co w (w.length-1-j)-co w' (w.length-1-j) else 0)*pw (rt i) j)=sm w.length (fun j=>co w (w.length-1-j)*pw (rt i) j+- (co w' (w'.length-1-j)*pw (rt i) j)):=by
     refine ag fun j hj=>?_
     by_cases hjr:j<r
     ·rw[if_pos hjr,hl]
      exact(show(((co w (w'.length-1-j))-(co w' (w'.length-1-j)))*(pw (rt i) j))=(((co w (w'.length-1-j))*(pw (rt i) j))+(-((co w' (w'.length-1-j))*(pw (rt i) j)))) from aj [(co w (w'.length-1-j)),(co w' (w'.length-1-j)),(pw (rt i) j)] (.mul (.add (.v 0) (.neg (.v 1))) (.v 2)) (.add (.mul (.v 0) (.v 2)) (.neg (.mul (.v 1) (.v 2)))) rfl)
     ·rw[if_neg hjr,hp (w.length-1-j) (by omega),hl]
      exact(show(0*(pw (rt i) j))=(((co w' (w'.length-1-j))*(pw (rt i) j))+(-((co w' (w'.length-1-j))*(pw (rt i) j)))) from aj [(co w' (w'.length-1-j)),(pw (rt i) j)] (.mul .zero (.v 1)) (.add (.mul (.v 0) (.v 1)) (.neg (.mul (.v 0) (.v 1)))) rfl)
    rw[this,m7,e1,←ss]
    rw[←hl]at e2
    have e4:sm w.length (fun j=>co w' (w'.length-1-j)*pw (rt i) j)=0:=by rw[←hl];exact e2
    rw[e4]
    exact(show(0+(-0))=0 from aj [((1:K))] (.add .zero (.neg .zero)) .zero rfl)
   unfold pv
   rw[show r-1+1=r by omega]
   rw[fV (m:=r) hlr (fun j h1 h2=>by rw[if_neg (by omega),zero_mul])]at e3
   exact e3)
 refine zh hl fun i hi=>?_
 by_cases h:i<w.length-r
 ·exact hp i h
 ·have:=hz (w.length-1-i)
  rw[if_pos (by omega),show w.length-1-(w.length-1-i)=i by omega]at this
  exact sub_eq_zero this
theorem Hz{rt:Nat→K}{r n:Nat}{data w S R:List K}{Q:Ser K}{N:Nat}(hn:n=data.length+r)(hS:∀k,co S k=if r≤k∧k<n then co data (n-1-k) else 0)(he:∀k,co S k=cv Q (gp rt r) k+co R k)(hR:∀k,r≤k→co R k=0)(hQ:∀k,N≤k→Q k=0)(hwl:w.length=n)(hw:∀i,i<data.length→co w i=co data i)(hw2:∀k,k<r→co w (n-1-k)=- co R k):Hj rt r w:=by
 intro i hi
 rw[vG,hwl]
 have e1:sm n (fun j=>co w (n-1-j)*pw (rt i) j)=sm n (fun j=>cv Q (gp rt r) j*pw (rt i) j):=by
  refine ag fun j hj=>?_
  congr 1
  have e:=he j
  rw[hS j]at e
  by_cases hjr:j<r
  ·rw[if_neg (by omega)]at e
   rw[hw2 j hjr]
   have:cv Q (gp rt r) j+co R j=0:=e.symm
   rw[add_comm]at this
   exact gf this
  ·rw[if_pos (by omega),hR j (by omega),add_zero]at e
   rw[hw (n-1-j) (by omega),e]
 have hdQ:dg Q N:=fun k hk=>hQ k (by omega)
 have hz:∀k,n≤k→cv Q (gp rt r) k=0:=by
  intro k hk
  have e:=he k
  rw[hS k,if_neg (by omega),hR k (by omega),add_zero]at e
  exact e.symm
 have e2:sm n (fun j=>cv Q (gp rt r) j*pw (rt i) j)=pv (cv Q (gp rt r)) (N+r) (rt i):=by
  unfold pv
  rcases Nat.le_total n (N+r+1)with h|h
  ·exact(fV h fun k h1 h2=>by rw[hz k h1,zero_mul]).symm
  ·exact fV h fun k h1 h2=>by rw[xA hdQ (sZ rt r) k (by omega),zero_mul]
 rw[e1,e2,kI hdQ (sZ rt r),p7 rt r i hi,mul_zero]
end
end Go.RS
namespace Go.RS
section
variable {K:Type}[Fd K]
theorem eu(X:K):∀l:List K,aT (l++[X])=cv (lin X) (aT l)
 | []=>rfl
 | Y::l=>by
  show cv (lin Y) (aT (l++[X]))=cv (lin X) (cv (lin Y) (aT l))
  rw[eu X l,←dO,cX (lin Y),dO]
theorem qx:∀(l:List K) (j:Nat) (h:j<l.length),aT l=cv (lin l[j]) (aT (l.eraseIdx j))
 | [],j,h=>by simp at h
 | X::l,0,_=>rfl
 | X::l,j+1,h=>by
  have hj:j<l.length:=by simpa using h
  show cv (lin X) (aT l)=cv (lin l[j]) (cv (lin X) (aT (l.eraseIdx j)))
  rw[qx l j hj,←dO,←dO,cX (lin X)]
theorem yt{p:Ser K}{s:Nat}(hp:dg p s){X:K}(hX:X≠0)(k:Nat):cv p (geo X) (s+k)=pw X (s+k)*pv p s (inv X):=by
 unfold cv pv
 rw[fV (m:=s+1) (by omega) (fun i h1 h2=>by rw[hp i (by omega),zero_mul]),jn]
 refine ag fun i hi=>?_
 obtain⟨j,hj⟩:∃j,s+k=j+i:=⟨s+k-i,by omega⟩
 show p i*pw X (s+k-i)=_
 rw[hj,show j+i-i=j by omega,eU]
 have:=l7 (dr hX) i
 have e:=(show(((pw X j)*(pw X i))*((p i)*(pw (inv X) i)))=(((p i)*(pw X j))*((pw X i)*(pw (inv X) i))) from aj [(p i),(pw X j),(pw X i),(pw (inv X) i)] (.mul (.mul (.v 1) (.v 2)) (.mul (.v 0) (.v 3))) (.mul (.mul (.v 0) (.v 1)) (.mul (.v 2) (.v 3))) rfl)
 rw[e,this,mul_one]
def thin(p:Ser K)(s:Nat)(l:List (K×K)):List (K×K):=l.map fun a=>(a.1*pw a.2 s*pv p s (inv a.2),a.2)
theorem sO{p:Ser K}{s:Nat}(hp:dg p s):∀(l:List (K×K)),(∀a ∈ l,a.2≠0)→∀k,cv p (gs l) (s+k)=gs (thin p s l) k
 | [],_,k=>by
  show cv p (fun _=>0) (s+k)=0
  rw[mg]
 | (y,X)::l,h,k=>by
  have hX:=h (y,X) (by simp)
  show cv p (fun n=>y*geo X n+gs l n) (s+k)=y*pw X s*pv p s (inv X)*geo X k+gs (thin p s l) k
  rw[pW,rS,yt hp hX,sO hp l (fun a ha=>h a (by simp[ha])) k,eU]
  congr 1
  show y*(pw X s*pw X k*pv p s (inv X))=y*pw X s*pv p s (inv X)*pw X k
  exact(show(y*(((pw X s)*(pw X k))*(pv p s (inv X))))=(((y*(pw X s))*(pv p s (inv X)))*(pw X k)) from aj [y,(pw X s),(pw X k),(pv p s (inv X))] (.mul (.v 0) (.mul (.mul (.v 1) (.v 2)) (.v 3))) (.mul (.mul (.mul (.v 0) (.v 1)) (.v 3)) (.v 2)) rfl)
theorem tw(l m:List (K×K))(k:Nat):gs (l++m) k=gs l k+gs m k:=by
 induction l with
 | nil=>exact(zero_add _).symm
 | cons a l ih=>
  obtain⟨y,X⟩:=a
  show y*geo X k+gs (l++m) k=y*geo X k+gs l k+gs m k
  rw[ih,add_assoc]
theorem zn(p:Ser K)(s:Nat)(l:List (K×K)):xs (thin p s l)=xs l:=by simp[xs,thin]
theorem wc(p:Ser K)(s:Nat)(l:List (K×K)):(thin p s l).length=l.length:=by simp[thin]
theorem Ad{S:Ser K}{r:Nat}(lE lF:List (K×K))(hS:∀k,k<r→S k=gs (lE++lF) k)(hX:∀a ∈ lE++lF,a.2≠0)(hy:∀a ∈ lF,a.1≠0)(hn:(xs (lE++lF)).Nodup)(hfew:2*lF.length+lE.length≤r) :
  (Reg.run (fun k=>cv S (aT (xs lE)) (lE.length+k)) (r-lE.length)).C=aT (xs lF)∧(Reg.run (fun k=>cv S (aT (xs lE)) (lE.length+k)) (r-lE.length)).L=lF.length:=by
 have hdE:=dS (xs lE)
 rw[eo]at hdE
 have hX1:∀a ∈ lF,a.2≠0:=fun a ha=>hX a (by simp[ha])
 have hxs:xs (lE++lF)=xs lE++xs lF:=by simp[xs]
 rw[hxs]at hn
 have hseq:∀k,k<r-lE.length→cv S (aT (xs lE)) (lE.length+k)=gs (thin (aT (xs lE)) lE.length lF) k:=by
  intro k hk
  have e1:cv S (aT (xs lE)) (lE.length+k)=cv (fun k=>gs lE k+gs lF k) (aT (xs lE)) (lE.length+k):=
   jS (fun i hi=>by rw[hS i (by omega),tw]) (fun _ _=>rfl)
  rw[e1,py,cX,vZ,lk lE _ (by omega),zero_add,cX,sO hdE lF hX1]
 have hrun:=gD (fun k=>cv S (aT (xs lE)) (lE.length+k)) (r-lE.length)
 have hu:=BJ hrun.gen hrun.min (thin (aT (xs lE)) lE.length lF) (by
  intro a ha
  obtain⟨c,hc,rfl⟩:=List.mem_map.1 ha
  have hcX:=hX1 c hc
  refine mul_ne_zero (mul_ne_zero (hy c hc) (bL hcX _)) ?_
  have hnot:c.2 ∉ xs lE:=by
   intro hm
   have:=(List.nodup_append.1 hn).2.2 c.2 hm c.2 (List.mem_map.2 ⟨c,hc,rfl⟩)
   exact this rfl
  have:=eF hnot (dr hcX)
  rwa [eo]at this) (by
  intro a ha
  obtain⟨c,hc,rfl⟩:=List.mem_map.1 ha
  exact hX1 c hc) (by rw[zn];exact(List.nodup_append.1 hn).2.1) hseq (by rw[wc];omega)
 rw[zn,wc]at hu
 exact hu
def der(p:Ser K):Ser K:=fun n=>nsm 1 (n+1)*p (n+1)
theorem HW(X:K)(p:Ser K)(n:Nat):der (cv (lin X) p) n=cv (lin X) (der p) n-X*p n:=by
 unfold der
 rw[mY]
 cases n with
 | zero=>
  rw[n8]
  show nsm 1 1*(p 1-X*p 0)=nsm 1 1*p 1-X*p 0
  have e:nsm (1:K) 1=1:=zero_add 1
  rw[e]
  exact(show(1*((p 1)-(X*(p 0))))=((1*(p 1))-(X*(p 0))) from aj [X,(p 1),(p 0)] (.mul .one (.add (.v 1) (.neg (.mul (.v 0) (.v 2))))) (.add (.mul .one (.v 1)) (.neg (.mul (.v 0) (.v 2)))) rfl)
 | succ n=>
  rw[mY]
  have e:nsm (1:K) (n+1+1)=nsm 1 (n+1)+1:=rfl
  rw[e]
  exact(show(((nsm (1:K) (n+1))+1)*((p (n+1+1))-(X*(p (n+1)))))=(((((nsm (1:K) (n+1))+1)*(p (n+1+1)))-(X*((nsm (1:K) (n+1))*(p (n+1)))))-(X*(p (n+1)))) from aj [X,(nsm (1:K) (n+1)),(p (n+1+1)),(p (n+1))] (.mul (.add (.v 1) .one) (.add (.v 2) (.neg (.mul (.v 0) (.v 3))))) (.add (.add (.mul (.add (.v 1) .one) (.v 2)) (.neg (.mul (.v 0) (.mul (.v 1) (.v 3))))) (.neg (.mul (.v 0) (.v 3)))) rfl)
theorem Kc{p:Ser K}{d:Nat}(h:dg p (d+1)):dg (der p) d:=fun i hi=>by
 show nsm 1 (i+1)*p (i+1)=0
 rw[h (i+1) (by omega),mul_zero]
theorem ES{l:List K}{j:Nat}(hj:j<l.length){x:K}(e:l[j]*x=1):pv (der (aT l)) (l.length-1) x=- (l[j]*pv (aT (l.eraseIdx j)) (l.length-1) x):=by
 have h1:=qx l j hj
 have hl:=List.length_eraseIdx_of_lt hj
 have hd:=dS (l.eraseIdx j)
 rw[hl]at hd
 have hdd:dg (der (aT (l.eraseIdx j))) (l.length-1-1):=by
  by_cases h0:l.length-1=0
  ·intro i hi
   show nsm 1 (i+1)*aT (l.eraseIdx j) (i+1)=0
   rw[hd (i+1) (by omega),mul_zero]
  ·exact Kc (by rw[show l.length-1-1+1=l.length-1 by omega];exact hd)
 have e2:der (aT l)=fun n=>cv (lin l[j]) (der (aT (l.eraseIdx j))) n+- (l[j]*aT (l.eraseIdx j) n):=by
  rw[h1]
  funext n
  rw[HW];rfl
 rw[e2,yM]
 have e3:pv (cv (lin l[j]) (der (aT (l.eraseIdx j)))) (l.length-1) x=0:=by
  by_cases h0:l.length-1=0
  ·have hz:der (aT (l.eraseIdx j))=fun _=>0:=by
    funext n
    show nsm 1 (n+1)*aT (l.eraseIdx j) (n+1)=0
    rw[hd (n+1) (by omega),mul_zero]
   rw[hz,mg]
   exact dX fun i _=>zero_mul _
  ·have:=kI (kq l[j]) hdd x
   rw[qi,e,sub_self,zero_mul,show 1+(l.length-1-1)=l.length-1 by omega]at this
   exact this
 rw[e3,zero_add]
 have e4:(fun i=>- (l[j]*aT (l.eraseIdx j) i))=fun i=>(- l[j])*aT (l.eraseIdx j) i:=by
  funext i;rw[neg_mul]
 rw[e4,uU,neg_mul]
theorem M4{S:Ser K}{r:Nat}(l:List (K×K))(hS:∀k,k<r→S k=gs l k)(hl:l.length≤r){j:Nat}(hj:j<l.length){x:K}(e:(l[j]).2*x=1) :
  hor (tab r (cv S (aT (xs l)))) x=(l[j]).1*pv (aT ((xs l).eraseIdx j)) (l.length-1) x:=by
 have e1:tab r (cv S (aT (xs l)))=tab r (om l):=aP fun k hk=>by
  rw[←vZ,cX]
  exact jS (fun _ _=>rfl) (fun i hi=>hS i (by omega))
 have hdo:dg (co (tab r (om l))) l.length:=by
  intro i hi
  rw[bS]
  split
  ·exact lk l i (by omega)
  ·rfl
 rw[e1,zA hdo,←Ej l j hj x e]
 unfold pv
 refine ag fun i hi=>?_
 rw[bS]
 split
 ·rfl
 ·rw[lk l i (by omega)]
end
end Go.RS
namespace Go.RS
section
variable {K:Type}[Fd K]
def sel(φ:Nat→Bool)(n:Nat):List Nat:=(List.range n).filter φ
theorem bK(φ:Nat→Bool)(n:Nat):sel φ (n+1)=sel φ n++(if φ n=true then[n] else[]):=by
 unfold sel
 rw[List.range_succ,List.filter_append]
 congr 1
 cases h:φ n<;>simp[h]
theorem bg{φ:Nat→Bool}{n i:Nat}:i ∈ sel φ n↔i<n∧φ i=true:=by simp[sel]
theorem fA(φ:Nat→Bool)(n:Nat):(sel φ n).Nodup:=List.nodup_range.sublist List.filter_sublist
theorem fW{φ ψ:Nat→Bool}{n:Nat}(h:∀i,i<n→φ i=ψ i):sel φ n=sel ψ n:=by
 unfold sel
 apply List.filter_congr
 intro i hi
 exact h i (by simpa using hi)
theorem pP{φ ψ:Nat→Bool}:∀{n:Nat},(∀i,i<n→φ i=true→ψ i=true)→(sel φ n).length≤(sel ψ n).length
 | 0,_=>by simp[sel]
 | n+1,h=>by
  have:=pP (n:=n) (fun i hi=>h i (by omega))
  rw[bK,bK,List.length_append,List.length_append]
  have h2:=h n (by omega)
  cases hφ:φ n with
  | false=>simp;omega
  | true=>rw[h2 hφ];simp;omega
def pr(X:Nat→K)(b:Nat)(ε:Nat→K)(l:List Nat):List (K×K):=l.map fun i=>(ε i*pw (X i) b,X i)
theorem nT(X:Nat→K)(b:Nat)(ε:Nat→K)(l:List Nat):xs (pr X b ε l)=l.map X:=by simp[xs,pr]
theorem iJ(X:Nat→K)(b:Nat)(ε:Nat→K)(l:List Nat):(pr X b ε l).length=l.length:=by simp[pr]
theorem Lj(X:Nat→K)(b:Nat)(ε:Nat→K)(i k:Nat):gs (pr X b ε [i]) k=ε i*pw (X i) (b+k):=by
 show ε i*pw (X i) b*pw (X i) k+0=_
 rw[add_zero,mul_assoc,←eU]
theorem m8(X:Nat→K)(b:Nat)(ε:Nat→K)(l:List Nat)(i k:Nat):gs (pr X b ε (l++[i])) k=gs (pr X b ε l) k+ε i*pw (X i) (b+k):=by
 have:pr X b ε (l++[i])=pr X b ε l++pr X b ε [i]:=by simp[pr]
 rw[this,tw,Lj]
theorem AE{X:Nat→K}{b:Nat}{ε:Nat→K}{φ:Nat→Bool}:∀{n:Nat},(∀i,i<n→φ i=false→ε i=0)→∀k,sm n (fun i=>ε i*pw (X i) (b+k))=gs (pr X b ε (sel φ n)) k
 | 0,_,_=>rfl
 | n+1,h,k=>by
  rw[bV,AE (fun i hi=>h i (by omega)),bK]
  cases hφ:φ n with
  | true=>rw[if_pos rfl,m8]
  | false=>rw[if_neg (by simp),List.append_nil,h n (by omega) hφ,zero_mul,add_zero]
theorem si{X:Nat→K}{b:Nat}{ε:Nat→K}{φ ψ:Nat→Bool}:∀{n:Nat},(∀i,i<n→φ i=false→ψ i=false→ε i=0)→(∀i,i<n→φ i=true→ψ i=false)→∀k,sm n (fun i=>ε i*pw (X i) (b+k))=gs (pr X b ε (sel φ n)++pr X b ε (sel ψ n)) k
 | 0,_,_,_=>rfl
 | n+1,h,h',k=>by
  rw[tw,bV,si (fun i hi=>h i (by omega)) (fun i hi=>h' i (by omega)),tw,bK,bK]
  cases hφ:φ n with
  | true=>
   rw[if_pos rfl,m8,h' n (by omega) hφ,if_neg (by simp),List.append_nil]
   exact(show(((gs (pr X b ε (sel φ n)) k)+(gs (pr X b ε (sel ψ n)) k))+(ε n*pw (X n) (b+k)))=(((gs (pr X b ε (sel φ n)) k)+(ε n*pw (X n) (b+k)))+(gs (pr X b ε (sel ψ n)) k)) from aj [(gs (pr X b ε (sel φ n)) k),(gs (pr X b ε (sel ψ n)) k),(ε n*pw (X n) (b+k))] (.add (.add (.v 0) (.v 1)) (.v 2)) (.add (.add (.v 0) (.v 2)) (.v 1)) rfl)
  | false=>
   rw[if_neg (by simp),List.append_nil]
   cases hψ:ψ n with
   | true=>rw[if_pos rfl,m8,add_assoc]
   | false=>rw[if_neg (by simp),List.append_nil,h n (by omega) hφ hψ,zero_mul,add_zero]
def gam(X:Nat→K)(er:Nat→Bool):Nat→Ser K
 | 0=>s1
 | i+1=>if er i=true then cv (lin (X i)) (gam X er i) else gam X er i
theorem sg(X:Nat→K)(er:Nat→Bool):∀n,gam X er n=aT ((sel er n).map X)
 | 0=>rfl
 | n+1=>by
  rw[gam,bK,sg X er n]
  cases h:er n with
  | true=>rw[if_pos rfl,if_pos rfl,List.map_append,List.map_singleton,eu]
  | false=>rw[if_neg (by simp),if_neg (by simp),List.append_nil]
def isR(X:Nat→K)(er:Nat→Bool)(lam:List K)(i:Nat):Bool:=!er i&&decide (hor lam (inv (X i))=0)
def an(X:Nat→K)(er:Nat→Bool)(lam:List K)(i:Nat):Bool:=er i || isR X er lam i
def nH(X:Nat→K)(b r:Nat)(S:Ser K)(P:List Nat)(i:Nat):K:=
 hor (tab r (cv S (aT (P.map X)))) (inv (X i))*inv (pw (X i) b*pv (aT ((P.filter fun k=>decide (k≠i)).map X)) (P.length-1) (inv (X i)))
structure Places (X:Nat→K)(n:Nat):Prop where
 ne:∀i,i<n→X i≠0
 inj:∀i j,i<n→j<n→X i=X j→i=j
theorem Places.nodup{X:Nat→K}{n:Nat}(h:Places X n){l:List Nat}(hl:l.Nodup)(hb:∀i ∈ l,i<n):(l.map X).Nodup:=by
 rw[List.nodup_iff_pairwise_ne,List.pairwise_map]
 refine List.Pairwise.imp_of_mem ?_ (List.nodup_iff_pairwise_ne.1 hl)
 intro a b ha hb' hne e
 exact hne (h.inj a b (hb a ha) (hb b hb') e)
theorem wZ{X:Nat→K}{n:Nat}(hX:Places X n){er:Nat→Bool}{lam:List K}(h1:co lam 0=1)(he:(sel (isR X er lam) n).length=lam.length-1):co lam=aT ((sel (isR X er lam) n).map X):=by
 have hb:∀i ∈ sel (isR X er lam) n,i<n:=fun i hi=>(bg.1 hi).1
 have hn:=hX.nodup (fA (isR X er lam) n) hb
 have hd:=P9 lam
 obtain⟨q,hq,hC⟩:=jL ((sel (isR X er lam) n).map X) ((sel (isR X er lam) n).map fun i=>inv (X i)) (co lam) 0 (by simp) hn (fun i h h'=>by
   rw[List.getElem_map,List.getElem_map]
   exact dr (hX.ne _ (hb _ (List.getElem_mem _)))) (by rw[List.length_map,Nat.add_zero,he];exact hd) (fun x hx=>by
   obtain⟨i,hi,rfl⟩:=List.mem_map.1 hx
   rw[List.length_map,Nat.add_zero,he,←zA hd]
   have:=(bg.1 hi).2
   simp only[isR,Bool.and_eq_true,decide_eq_true_eq]at this
   exact this.2)
 have hq0:q 0=1:=by rwa [hC,nP,jY,one_mul]at h1
 have hqs:q=s1:=by
  funext i
  unfold s1
  split
  ·rename_i h;rw[h];exact hq0
  ·exact hq i (by omega)
 rw[hC,hqs,cX,fo]
def kG(S Γ:Ser K)(s:Nat):Ser K:=fun k=>cv S Γ (s+k)
theorem xN{l:List K}{t:Nat}(h:co l t≠0)(hz:∀i,t<i→co l i=0):(trim l).length=t+1:=by
 have hne:trim l≠[]:=by
  intro e
  have:=gU l t
  rw[e]at this
  exact h this.symm
 have htop:=nG l hne
 have hpos:0<(trim l).length:=List.length_pos_iff.2 hne
 have h1:(trim l).length-1≤t:=by
  apply Decidable.byContradiction
  intro hc
  exact htop (hz _ (by omega))
 have h2:t<(trim l).length:=by
  apply Decidable.byContradiction
  intro hc
  apply h
  rw[←gU,eT (by omega)]
 omega
theorem IZ{X:Nat→K}{n r b:Nat}(hX:Places X n){er:Nat→Bool}{S:Ser K}{lam:List K}(hlam:co lam=(Reg.run (kG S (aT ((sel er n).map X)) (sel er n).length) (r-(sel er n).length)).C)
  (he:(sel (isR X er lam) n).length=lam.length-1) (hfew:2*(sel (isR X er lam) n).length+(sel er n).length≤r) (ε:Nat→K) (hε:∀i,i<n→an X er lam i=false→ε i=0) (hS:∀k,k<r→S k=sm n (fun i=>ε i*pw (X i) (b+k))) :
  (Reg.run (kG S (aT ((sel er n).map X)) (sel er n).length) (r-(sel er n).length)).L=(sel (isR X er lam) n).length:=by
 have h1:co lam 0=1:=by rw[hlam];exact(gD _ _).gen.one
 have hll:=wZ hX h1 he
 generalize hφ:(fun i=>!er i&&decide (ε i≠0))=φ
 have hsub:∀i,i<n→φ i=true→isR X er lam i=true:=by
  intro i hi h
  rw[←hφ]at h
  simp only[Bool.and_eq_true,Bool.not_eq_true',decide_eq_true_eq]at h
  cases hb:an X er lam i with
  | false=>exact absurd (hε i hi hb) h.2
  | true=>
   unfold an at hb
   rw[h.1,Bool.false_or]at hb
   exact hb
 have hle:=pP hsub
 have hgs:∀k,k<r→S k=gs (pr X b ε (sel er n)++pr X b ε (sel φ n)) k:=by
  intro k hk
  rw[hS k hk]
  refine si (fun i hi h1 h2=>?_) (fun i hi h=>?_) k
  ·rw[←hφ]at h2
   simp only[h1,Bool.not_false,Bool.true_and,decide_eq_false_iff_not]at h2
   exact Classical.not_not.1 h2
  ·rw[←hφ];simp[h]
 have hlocs:=Ad (pr X b ε (sel er n)) (pr X b ε (sel φ n)) hgs (by
   intro a ha
   rcases List.mem_append.1 ha with ha|ha
   ·obtain⟨i,hi,rfl⟩:=List.mem_map.1 ha
    exact hX.ne i (bg.1 hi).1
   ·obtain⟨i,hi,rfl⟩:=List.mem_map.1 ha
    exact hX.ne i (bg.1 hi).1) (by
   intro a ha
   obtain⟨i,hi,rfl⟩:=List.mem_map.1 ha
   have h2:=bg.1 hi
   rw[←hφ]at h2
   simp only[Bool.and_eq_true,decide_eq_true_eq]at h2
   exact mul_ne_zero h2.2.2 (bL (hX.ne i h2.1) _)) (by
   have e:xs (pr X b ε (sel er n)++pr X b ε (sel φ n))=(sel er n++sel φ n).map X:=by rw[List.map_append,←nT X b ε,←nT X b ε];exact List.map_append
   rw[e]
   refine hX.nodup (List.nodup_append.2 ⟨fA _ _,fA _ _,?_⟩) (fun i hi=>?_)
   ·intro i hi j hj e2
    have h2:=(bg.1 hi).2
    have h3:=(bg.1 hj).2
    rw[←hφ,←e2]at h3
    simp[h2]at h3
   ·rcases List.mem_append.1 hi with h|h
    ·exact(bg.1 h).1
    ·exact(bg.1 h).1) (by rw[iJ,iJ];omega)
 rw[iJ,iJ,nT,nT]at hlocs
 have hC:co lam=aT ((sel φ n).map X):=by rw[hlam];exact hlocs.1
 have htop:=nR ((sel (isR X er lam) n).map X) (by
  intro x hx
  obtain⟨i,hi,rfl⟩:=List.mem_map.1 hx
  exact hX.ne i (bg.1 hi).1)
 rw[←hll,hC,List.length_map]at htop
 have hdeg:=dS ((sel φ n).map X)
 rw[List.length_map]at hdeg
 have hge:(sel (isR X er lam) n).length≤(sel φ n).length:=by
  apply Decidable.byContradiction
  intro hc
  exact htop (hdeg _ (by omega))
 have:=hlocs.2
 unfold kG
 omega
theorem sA(X:Nat→K):∀(P:List Nat) (j:Nat),(P.map X).eraseIdx j=(P.eraseIdx j).map X
 | [],_=>rfl
 | _::_,0=>rfl
 | a::P,j+1=>by
  show X a::(P.map X).eraseIdx j=X a::(P.eraseIdx j).map X
  rw[sA X P j]
theorem erase_filter{P:List Nat}(hn:P.Nodup){j:Nat}(hj:j<P.length)(X:Nat→K):(P.map X).eraseIdx j=(P.filter fun k=>decide (k≠P[j])).map X:=by
 rw[sA]
 congr 1
 induction P generalizing j with
 | nil=>simp at hj
 | cons a P ih=>
  have hna:=(List.nodup_cons.1 hn).1
  cases j with
  | zero=>
   show P=List.filter (fun k=>decide (k≠a)) (a::P)
   rw[List.filter_cons_of_neg (by simp)]
   symm
   rw[List.filter_eq_self]
   intro k hk
   simp
   intro e
   exact hna (e▸hk)
  | succ j=>
   have hj':j<P.length:=by simpa using hj
   show a::P.eraseIdx j=List.filter (fun k=>decide (k≠P[j])) (a::P)
   rw[List.filter_cons_of_pos (by simp;intro e;exact hna (e▸List.getElem_mem _)),ih (List.nodup_cons.1 hn).2 hj']
theorem JB{X:Nat→K}{n r b:Nat}(hX:Places X n){er:Nat→Bool}{S:Ser K}{lam:List K}{N:Nat}(hlam:lam=trim (tab N (Reg.run (kG S (aT ((sel er n).map X)) (sel er n).length) (r-(sel er n).length)).C))(hN:∀i,N≤i→(Reg.run (kG S (aT ((sel er n).map X)) (sel er n).length) (r-(sel er n).length)).C i=0)
  (ε:Nat→K) (hS:∀k,k<r→S k=sm n (fun i=>ε i*pw (X i) (b+k))) (hfew:2*(sel (fun i=>!er i&&decide (ε i≠0)) n).length+(sel er n).length≤r) :
  (sel (isR X er lam) n).length=lam.length-1∧2*(lam.length-1)+(sel er n).length≤r∧(Reg.run (kG S (aT ((sel er n).map X)) (sel er n).length) (r-(sel er n).length)).L=lam.length-1∧(∀i,i<n→an X er lam i=false→ε i=0)∧(∀i,i<n→an X er lam i=true→nH X b r S (sel (an X er lam) n) i=ε i):=by
 generalize hφ:(fun i=>!er i&&decide (ε i≠0))=φ at *
 have hgs:∀k,k<r→S k=gs (pr X b ε (sel er n)++pr X b ε (sel φ n)) k:=by
  intro k hk
  rw[hS k hk]
  refine si (fun i hi h1 h2=>?_) (fun i hi h=>?_) k
  ·rw[←hφ]at h2
   simp only[h1,Bool.not_false,Bool.true_and,decide_eq_false_iff_not]at h2
   exact Classical.not_not.1 h2
  ·rw[←hφ];simp[h]
 have hlocs:=Ad (pr X b ε (sel er n)) (pr X b ε (sel φ n)) hgs (by
   intro a ha
   rcases List.mem_append.1 ha with ha|ha
   ·obtain⟨i,hi,rfl⟩:=List.mem_map.1 ha
    exact hX.ne i (bg.1 hi).1
   ·obtain⟨i,hi,rfl⟩:=List.mem_map.1 ha
    exact hX.ne i (bg.1 hi).1) (by
   intro a ha
   obtain⟨i,hi,rfl⟩:=List.mem_map.1 ha
   have h2:=bg.1 hi
   rw[←hφ]at h2
   simp only[Bool.and_eq_true,decide_eq_true_eq]at h2
   exact mul_ne_zero h2.2.2 (bL (hX.ne i h2.1) _)) (by
   have e:xs (pr X b ε (sel er n)++pr X b ε (sel φ n))=(sel er n++sel φ n).map X:=by rw[List.map_append,←nT X b ε,←nT X b ε];exact List.map_append
   rw[e]
   refine hX.nodup (List.nodup_append.2 ⟨fA _ _,fA _ _,?_⟩) (fun i hi=>?_)
   ·intro i hi j hj e2
    have h2:=(bg.1 hi).2
    have h3:=(bg.1 hj).2
    rw[←hφ,←e2]at h3
    simp[h2]at h3
   ·rcases List.mem_append.1 hi with h|h
    ·exact(bg.1 h).1
    ·exact(bg.1 h).1) (by rw[iJ,iJ];omega)
 rw[iJ,iJ,nT,nT]at hlocs
 change (Reg.run (kG S (aT ((sel er n).map X)) (sel er n).length) (r-(sel er n).length)).C=_∧(Reg.run (kG S (aT ((sel er n).map X)) (sel er n).length) (r-(sel er n).length)).L=_ at hlocs
 have hcoT:co (tab N (Reg.run (kG S (aT ((sel er n).map X)) (sel er n).length) (r-(sel er n).length)).C)=aT ((sel φ n).map X):=by
  rw[←hlocs.1]
  funext i
  rw[bS]
  split
  ·rfl
  ·exact(hN i (by omega)).symm
 have hne:∀x ∈ (sel φ n).map X,x≠0:=by
  intro x hx
  obtain⟨i,hi,rfl⟩:=List.mem_map.1 hx
  exact hX.ne i (bg.1 hi).1
 have htop:=nR _ hne
 have hdeg:=dS ((sel φ n).map X)
 rw[List.length_map]at htop hdeg
 have hlen:lam.length=(sel φ n).length+1:=by
  rw[hlam]
  exact xN (by rw[hcoT];exact htop) (by rw[hcoT];exact hdeg)
 have hco:co lam=aT ((sel φ n).map X):=by
  funext i
  rw[hlam,gU,hcoT]
 have hdl:dg (co lam) (sel φ n).length:=by rw[hco];exact hdeg
 have hisR:∀i,i<n→isR X er lam i=φ i:=by
  intro i hi
  have hφi:φ i=(!er i&&decide (ε i≠0)):=by rw[←hφ]
  rw[hφi]
  unfold isR
  cases her:er i with
  | true=>rfl
  | false=>
   simp only[Bool.not_false,Bool.true_and]
   have hv:hor lam (inv (X i))=pv (aT ((sel φ n).map X)) ((sel φ n).map X).length (inv (X i)):=by rw[zA hdl,hco,List.length_map]
   by_cases hε:ε i≠0
   ·rw[decide_eq_true hε,hv,iV (X:=X i) (List.mem_map.2 ⟨i,bg.2 ⟨hi,by rw[←hφ];simp[her,hε]⟩,rfl⟩) (dr (hX.ne i hi))]
    simp
   ·rw[decide_eq_false hε,hv]
    refine decide_eq_false (eF (X:=X i) (fun hm=>?_) (dr (hX.ne i hi)))
    obtain⟨j,hj,e⟩:=List.mem_map.1 hm
    have hj2:=bg.1 hj
    have:=hX.inj j i hj2.1 hi e
    subst this
    rw[←hφ]at hj2
    simp only[Bool.and_eq_true,decide_eq_true_eq]at hj2
    exact hε hj2.2.2
 have hsel:sel (isR X er lam) n=sel φ n:=fW hisR
 have hboth:∀i,i<n→an X er lam i=(er i || φ i):=fun i hi=>by unfold an;rw[hisR i hi]
 refine⟨by rw[hsel];omega,by omega,by rw[hlocs.2];omega,fun i hi h=>?_,fun i hi h=>?_⟩
 ·rw[hboth i hi,←hφ]at h
  simp only[Bool.or_eq_false_iff,Bool.and_eq_false_iff,Bool.not_eq_false',decide_eq_false_iff_not]at h
  rcases h with ⟨h1,h2|h2⟩
  ·rw[h1]at h2;cases h2
  ·exact Classical.not_not.1 h2
 ·have hPn:=fA (an X er lam) n
  have hPl:(sel (an X er lam) n).length≤r:=by
   have key:∀m,m≤n→(sel (an X er lam) m).length≤(sel er m).length+(sel φ m).length:=by
    intro m
    induction m with
    | zero=>intro _;simp[sel]
    | succ m ih=>
     intro hm
     have:=ih (by omega)
     rw[bK,bK,bK,List.length_append,List.length_append,List.length_append,hboth m (by omega)]
     cases er m<;>cases φ m<;>simp<;>omega
   have:=key n (Nat.le_refl _)
   omega
  obtain⟨j,hj,hji⟩:=List.getElem_of_mem (bg.2 ⟨hi,h⟩)
  have hj':j<(pr X b ε (sel (an X er lam) n)).length:=by rw[iJ];exact hj
  have hpj:(pr X b ε (sel (an X er lam) n))[j]=(ε i*pw (X i) b,X i):=by simp[pr,hji]
  have hSP:∀k,k<r→S k=gs (pr X b ε (sel (an X er lam) n)) k:=by
   intro k hk
   rw[hS k hk]
   refine AE (fun i hi h=>?_) k
   rw[hboth i hi,←hφ]at h
   simp only[Bool.or_eq_false_iff,Bool.and_eq_false_iff,Bool.not_eq_false',decide_eq_false_iff_not]at h
   rcases h with ⟨h1,h2|h2⟩
   ·rw[h1]at h2;cases h2
   ·exact Classical.not_not.1 h2
  have hXi:=hX.ne i hi
  have hf:=M4 (pr X b ε (sel (an X er lam) n)) hSP (by rw[iJ];exact hPl) hj' (x:=inv (X i)) (by rw[hpj];exact dr hXi)
  rw[nT,iJ,hpj,erase_filter hPn hj]at hf
  unfold nH
  rw[hf]
  simp only[hji]
  have hden:pv (aT (((sel (an X er lam) n).filter fun k=>decide (k≠i)).map X)) ((sel (an X er lam) n).length-1) (inv (X i))≠0:=by
   have hlen2:(((sel (an X er lam) n).filter fun k=>decide (k≠i)).map X).length=(sel (an X er lam) n).length-1:=by
    have:=congrArg List.length (erase_filter hPn hj X)
    rw[List.length_eraseIdx_of_lt (by simpa using hj),List.length_map]at this
    rw[←hji]
    exact this.symm
   rw[←hlen2]
   refine eF (X:=X i) (fun hm=>?_) (dr hXi)
   obtain⟨k,hk,e⟩:=List.mem_map.1 hm
   have hk2:=List.mem_filter.1 hk
   have:=hX.inj k i (bg.1 hk2.1).1 hi e
   simp[this]at hk2
  generalize pv (aT (((sel (an X er lam) n).filter fun k=>decide (k≠i)).map X)) ((sel (an X er lam) n).length-1) (inv (X i))=D at *
  have hXb:=bL hXi b
  rw[mul_assoc (ε i),mul_assoc (ε i),dr (mul_ne_zero hXb hden),mul_one]
end
end Go.RS
namespace Go.RS
section
variable {K:Type}[Fd K]
def plc(g:K)(n i:Nat):K:=pw g (n-1-i)
theorem ej{g:K}{n m:Nat}(hg:g≠0)(h:Ord g m)(hn:n≤m):Places (plc g n) n where
 ne:=fun i _=>bL hg _
 inj:=fun i j hi hj e=>by
  have:=p0 hg h (n-1-i) (n-1-j) (by omega) (by omega) e
  omega
theorem vS(g:K)(w:List K)(m:Nat):cZ w (pw g m)=sm w.length (fun i=>co w i*pw (plc g w.length i) m):=by
 rw[zI]
 refine ag fun i _=>?_
 unfold plc
 rw[←dW,←dW,Nat.mul_comm]
def syS(g:K)(r b:Nat)(w:List K):Ser K:=co (tab r (fun i=>cZ w (pw g (b+i))))
theorem DY{g:K}{r b k:Nat}(w:List K)(hk:k<r):syS g r b w k=cZ w (pw g (b+k)):=by
 unfold syS;rw[bS,if_pos hk]
def sC(er:Nat→Bool)(n:Nat):Nat:=(sel er n).length
def fT(X:Nat→K)(er:Nat→Bool)(n r:Nat)(S:Ser K):List K:=(tab r (cv S (gam X er n))).drop (sC er n)
theorem JA(l:List K)(s k:Nat):co (l.drop s) k=co l (s+k):=by
 unfold co
 rw[List.getD_eq_getElem?_getD,List.getD_eq_getElem?_getD,List.getElem?_drop]
theorem gk(X:Nat→K)(er:Nat→Bool)(n r:Nat)(S:Ser K):(fT X er n r S).length=r-sC er n:=by
 unfold fT;rw[List.length_drop,aE]
theorem mi(X:Nat→K)(er:Nat→Bool)(n r:Nat)(S:Ser K):Reg.run (co (fT X er n r S)) (fT X er n r S).length=Reg.run (kG S (aT ((sel er n).map X)) (sel er n).length) (r-(sel er n).length):=by
 rw[gk]
 refine sY fun k hk=>?_
 unfold fT kG
 rw[JA,bS,if_pos (by unfold sC at hk ⊢;omega),sg];rfl
def EZ(s:List K):List K:=trim (tab (bml (co s) s.length).1 (Reg.run (co s) s.length).C)
def cF(X:Nat→K)(er:Nat→Bool)(n r:Nat)(S:Ser K):List K:=EZ (fT X er n r S)
theorem Fo(X:Nat→K)(er:Nat→Bool)(n r:Nat)(S:Ser K):co (cF X er n r S)=(Reg.run (kG S (aT ((sel er n).map X)) (sel er n).length) (r-(sel er n).length)).C:=by
 funext i
 unfold cF EZ
 rw[gU,bS,←mi]
 split
 ·rfl
 ·exact((mZ _ _).1 i (by omega)).symm
theorem tJ(X:Nat→K)(er:Nat→Bool)(n r:Nat)(S:Ser K):co (cF X er n r S) 0=1:=by
 rw[Fo];exact(gD _ _).gen.one
def Am(X:Nat→K)(er:Nat→Bool)(n r:Nat)(S:Ser K):Nat:=(Reg.run (co (fT X er n r S)) (fT X er n r S).length).L
def fD(g:K)(r b:Nat)(w:List K)(er:Nat→Bool):List K:=
 let X:=plc g w.length
 let S:=syS g r b w
 let lam:=cF X er w.length r S
 tab w.length (fun i=>if an X er lam i=true then co w i-nH X b r S (sel (an X er lam) w.length) i else co w i)
theorem fm(g:K)(r b:Nat)(w:List K)(er:Nat→Bool):(fD g r b w er).length=w.length:=aE _ _
def kL(g:K)(r b:Nat)(w:List K):Prop:=∀k,k<r→cZ w (pw g (b+k))=0
structure DecOK (g:K)(r b:Nat)(w:List K)(er:Nat→Bool):Prop where
 few:sC er w.length≤r
 cap:2*((cF (plc g w.length) er w.length r (syS g r b w)).length-1)+sC er w.length≤r
 num:(sel (isR (plc g w.length) er (cF (plc g w.length) er w.length r (syS g r b w))) w.length).length=(cF (plc g w.length) er w.length r (syS g r b w)).length-1
 cw:kL g r b (fD g r b w er)
theorem rY(g:K){w c:List K}(hl:c.length=w.length)(m:Nat):sm w.length (fun i=>(co w i-co c i)*pw (plc g w.length i) m)=cZ w (pw g m)-cZ c (pw g m):=by
 rw[vS,vS,hl,sub_def,ss,←m7]
 refine ag fun i _=>?_
 exact(show(((co w i)-(co c i))*(pw (plc g w.length i) m))=(((co w i)*(pw (plc g w.length i) m))+(-((co c i)*(pw (plc g w.length i) m)))) from aj [(co w i),(co c i),(pw (plc g w.length i) m)] (.mul (.add (.v 0) (.neg (.v 1))) (.v 2)) (.add (.mul (.v 0) (.v 2)) (.neg (.mul (.v 1) (.v 2)))) rfl)
theorem DecOK.reg{g:K}{r b m:Nat}{w:List K}{er:Nat→Bool}(hg:g≠0)(ho:Ord g m)(hn:w.length≤m)(h:DecOK g r b w er):Am (plc g w.length) er w.length r (syS g r b w)=(sel (isR (plc g w.length) er (cF (plc g w.length) er w.length r (syS g r b w))) w.length).length:=by
 unfold Am
 rw[mi]
 have hcap:=h.cap
 rw[←h.num]at hcap
 refine IZ (b:=b) (ej hg ho hn) (Fo _ _ _ _ _) h.num hcap (fun i=>co w i-co (fD g r b w er) i) (fun i hi hb=>?_) (fun k hk=>?_)
 ·show co w i-co (fD g r b w er) i=0
  unfold fD
  rw[bS,if_pos hi,if_neg (by rw[hb];simp),sub_self]
 ·rw[rY g (fm g r b w er),h.cw k hk,DY w hk]
  exact(show(cZ w (pw g (b+k)))=((cZ w (pw g (b+k)))-0) from aj [(cZ w (pw g (b+k)))] (.v 0) (.add (.v 0) (.neg .zero)) rfl)
theorem yA{g:K}{r b m:Nat}{w c:List K}{er:Nat→Bool}(hg:g≠0)(ho:Ord g m)(hn:w.length≤m)(hl:c.length=w.length)(hc:kL g r b c)
  (hfew:2*(sel (fun i=>!er i&&decide (co w i≠co c i)) w.length).length+sC er w.length≤r):DecOK g r b w er∧fD g r b w er=c:=by
 have hS:∀k,k<r→syS g r b w k=sm w.length (fun i=>(co w i-co c i)*pw (plc g w.length i) (b+k)):=by
  intro k hk
  rw[rY g hl,hc k hk,DY w hk]
  exact(show(cZ w (pw g (b+k)))=((cZ w (pw g (b+k)))-0) from aj [(cZ w (pw g (b+k)))] (.v 0) (.add (.v 0) (.neg .zero)) rfl)
 have hsub:∀i,(co w i-co c i≠0)↔co w i≠co c i:=fun i=>⟨fun h e=>h (by rw[e,sub_self]),fun h e=>h (sub_eq_zero e)⟩
 have hd:=JB (b:=b) (ej hg ho hn) (er:=er) (S:=syS g r b w) (lam:=cF (plc g w.length) er w.length r (syS g r b w)) (N:=(bml (co (fT (plc g w.length) er w.length r (syS g r b w))) (fT (plc g w.length) er w.length r (syS g r b w)).length).1) (by unfold cF EZ;rw[mi]) (fun i hi=>by rw[←mi];exact(mZ _ _).1 i hi)
  (fun i=>co w i-co c i) hS (by
   have e:sel (fun i=>!er i&&decide (co w i-co c i≠0)) w.length=sel (fun i=>!er i&&decide (co w i≠co c i)) w.length:=fW fun i _=>by
    congr 1
    exact decide_eq_decide.2 (hsub i)
   rw[e];exact hfew)
 have hfix:fD g r b w er=c:=by
  refine(zh (by rw[hl,fm]) fun i hi=>?_)
  rw[fm]at hi
  unfold fD
  rw[bS,if_pos hi]
  split
  ·rename_i hb
   rw[hd.2.2.2.2 i hi hb]
   exact(show((co w i)-((co w i)-(co c i)))=(co c i) from aj [(co w i),(co c i)] (.add (.v 0) (.neg (.add (.v 0) (.neg (.v 1))))) (.v 1) rfl)
  ·rename_i hb
   have:=hd.2.2.2.1 i hi (by simpa using hb)
   exact sub_eq_zero this
 refine⟨⟨by omega,hd.2.1,hd.1,by rw[hfix];exact hc⟩,hfix⟩
theorem ur{X:Nat→K}{φ ψ:Nat→Bool}:∀{n:Nat},(∀i,i<n→ψ i=true→φ i=false)→cv (aT ((sel φ n).map X)) (aT ((sel ψ n).map X))=aT ((sel (fun i=>φ i || ψ i) n).map X)
 | 0,_=>fo _
 | n+1,h=>by
  have ih:=ur (X:=X) (φ:=φ) (ψ:=ψ) (n:=n) (fun i hi=>h i (by omega))
  rw[bK,bK,bK,List.map_append,List.map_append,List.map_append]
  cases hψ:ψ n with
  | true=>
   rw[h n (by omega) hψ]
   simp only[Bool.false_or,if_true,Bool.false_eq_true,if_false,List.map_nil,List.append_nil,List.map_cons]
   rw[eu,eu,←ih,←dO,←dO,cX _ (lin (X n))]
  | false=>
   cases hφ:φ n with
   | true=>
    simp only[Bool.or_false,if_true,Bool.false_eq_true,if_false,List.map_nil,List.append_nil,List.map_cons]
    rw[eu,eu,←ih,dO]
   | false=>
    simp only[Bool.or_false,Bool.false_eq_true,if_false,List.map_nil,List.append_nil]
    exact ih
theorem BI{X:Nat→K}{n r:Nat}(hX:Places X n){er:Nat→Bool}{S:Ser K}(hnum:(sel (isR X er (cF X er n r S)) n).length=(cF X er n r S).length-1):cv (gam X er n) (co (cF X er n r S))=aT ((sel (an X er (cF X er n r S)) n).map X):=by
 rw[sg,wZ hX (tJ _ _ _ _ _) hnum]
 refine ur fun i _ h=>?_
 unfold isR at h
 simp only[Bool.and_eq_true,Bool.not_eq_true']at h
 exact h.1
theorem FN{X:Nat→K}{n:Nat}{er:Nat→Bool}{lam:List K}:(sel (an X er lam) n).length=(sel er n).length+(sel (isR X er lam) n).length:=by
 induction n with
 | zero=>rfl
 | succ n ih=>
  rw[bK,bK,bK,List.length_append,List.length_append,List.length_append,ih]
  unfold an isR
  cases er n<;>cases decide (hor lam (inv (X n))=0)<;>simp<;>omega
theorem vQ{X:Nat→K}{n:Nat}(hX:Places X n){P:List Nat}(hP:P.Nodup)(hb:∀i ∈ P,i<n){i:Nat}(hi:i ∈ P):pv (der (aT (P.map X))) (P.length-1) (inv (X i))=- (X i*pv (aT ((P.filter fun k=>decide (k≠i)).map X)) (P.length-1) (inv (X i)))∧pv (aT ((P.filter fun k=>decide (k≠i)).map X)) (P.length-1) (inv (X i))≠0:=by
 obtain⟨j,hj,hji⟩:=List.getElem_of_mem hi
 have hXi:=hX.ne i (hb i hi)
 have hlt:j<(P.map X).length:=by simpa using hj
 have hd:=ES (l:=P.map X) (j:=j) hlt (x:=inv (X i)) (by rw[List.getElem_map,hji];exact dr hXi)
 rw[List.getElem_map,erase_filter hP hj,hji,List.length_map]at hd
 refine⟨hd,?_⟩
 have hlen2:((P.filter fun k=>decide (k≠i)).map X).length=P.length-1:=by
  have:=congrArg List.length (erase_filter hP hj X)
  rw[List.length_eraseIdx_of_lt (by simpa using hj),List.length_map]at this
  rw[←hji]
  exact this.symm
 rw[←hlen2]
 refine eF (X:=X i) (fun hm=>?_) (dr hXi)
 obtain⟨k,hk,e⟩:=List.mem_map.1 hm
 have hk2:=List.mem_filter.1 hk
 have:=hX.inj k i (hb k hk2.1) (hb i hi) e
 simp[this]at hk2
theorem TI{g:K}{m n b r i:Nat}(hg:g≠0)(ho:Ord g m)(hn:n≤m){S:Ser K}{P:List Nat}(hP:P.Nodup)(hb:∀i ∈ P,i<n)(hi:i ∈ P) :
  pw g ((n-1-i)*(b+(m-1)))*pv (der (aT (P.map (plc g n)))) (P.length-1) (inv (plc g n i))≠0 ∧
  hor (tab r (cv S (aT (P.map (plc g n))))) (inv (plc g n i))*inv (pw g ((n-1-i)*(b+(m-1)))*pv (der (aT (P.map (plc g n)))) (P.length-1) (inv (plc g n i)))=- nH (plc g n) b r S P i:=by
 have hX:=ej hg ho hn
 obtain⟨h1,h2⟩:=vQ hX hP hb hi
 have hXi:=hX.ne i (hb i hi)
 have hpw:pw (plc g n i) (m-1)*plc g n i=1:=by
  rw[←dq,Nat.sub_add_cancel ho.1]
  unfold plc
  rw[←dW,Nat.mul_comm,dW,ho.2.1,gO]
 have hfac:pw g ((n-1-i)*(b+(m-1)))=pw (plc g n i) b*pw (plc g n i) (m-1):=by
  rw[dW,eU];rfl
 have hdv:pw g ((n-1-i)*(b+(m-1)))*pv (der (aT (P.map (plc g n)))) (P.length-1) (inv (plc g n i))=- (pw (plc g n i) b*pv (aT ((P.filter fun k=>decide (k≠i)).map (plc g n))) (P.length-1) (inv (plc g n i))):=by
  rw[h1,hfac]
  generalize pv (aT ((P.filter fun k=>decide (k≠i)).map (plc g n))) (P.length-1) (inv (plc g n i))=D
  have e:pw (plc g n i) b*pw (plc g n i) (m-1)*-(plc g n i*D)=-(pw (plc g n i) b*D*(pw (plc g n i) (m-1)*plc g n i)):=(show(((pw (plc g n i) b)*(pw (plc g n i) (m-1)))*(-((plc g n i)*(D))))=(-(((pw (plc g n i) b)*(D))*((pw (plc g n i) (m-1))*(plc g n i)))) from aj [(pw (plc g n i) b),(pw (plc g n i) (m-1)),(plc g n i),(D)] (.mul (.mul (.v 0) (.v 1)) (.neg (.mul (.v 2) (.v 3)))) (.neg (.mul (.mul (.v 0) (.v 3)) (.mul (.v 1) (.v 2)))) rfl)
  rw[e,hpw,mul_one]
 rw[hdv]
 unfold nH
 have hne:=mul_ne_zero (bL hXi b) h2
 generalize pw (plc g n i) b*pv (aT ((P.filter fun k=>decide (k≠i)).map (plc g n))) (P.length-1) (inv (plc g n i))=E at *
 refine⟨neg_ne_zero hne,?_⟩
 have hi2:inv (-E)=- inv E:=lH (by rw[neg_mul,mul_neg,neg_neg,dr hne])
 rw[hi2,mul_neg]
theorem yg{M:Nat}(F:Ser K)(x:K)(h:1≤M):hor (tab M F) x=pv F (M-1) x:=by
 rw[uI,aE]
 unfold pv
 rw[Nat.sub_add_cancel h]
 refine ag fun i hi=>?_
 rw[bS,if_pos hi]
end
end Go.RS
namespace Go.RS
def f7:FD:=⟨7,0⟩
theorem pr7:Pr 7:=⟨by decide,fun d h1 h2=>by
 have:d=2∨d=3∨d=4∨d=5∨d=6:=by omega
 rcases this with rfl|rfl|rfl|rfl|rfl<;>decide⟩
instance ok7:OkC f7:=⟨.inl ⟨rfl,by decide,by decide,pr7⟩⟩
def e7(n:Nat)(h:n<7:=by decide):El f7:=⟨n,h⟩
end Go.RS
