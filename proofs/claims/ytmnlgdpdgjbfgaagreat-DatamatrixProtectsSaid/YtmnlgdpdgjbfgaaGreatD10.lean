/- Fields, and a check of identities in them by reckoning. -/
import Derived.KernelRfl
set_option linter.unusedVariables false
set_option linter.unusedSimpArgs false
set_option linter.unusedSectionVars false
namespace Go.RS
class Fd (K:Type) where
 add:K→K→K
 mul:K→K→K
 neg:K→K
 zero:K
 one:K
 inv:K→K
 add_assoc':∀a b c,add (add a b) c=add a (add b c)
 add_comm':∀a b,add a b=add b a
 add_zero':∀a,add a zero=a
 add_neg':∀a,add a (neg a)=zero
 mul_assoc':∀a b c,mul (mul a b) c=mul a (mul b c)
 mul_comm':∀a b,mul a b=mul b a
 mul_one':∀a,mul a one=a
 mul_add':∀a b c,mul a (add b c)=add (mul a b) (mul a c)
 mul_inv':∀a,a≠zero→mul a (inv a)=one
 one_ne':one≠zero
 dec:DecidableEq K
section
variable {K:Type}[Fd K]
instance (priority:=50):Add K:=⟨Fd.add⟩
instance (priority:=50):Mul K:=⟨Fd.mul⟩
instance (priority:=50):Neg K:=⟨Fd.neg⟩
instance (priority:=50):Sub K:=⟨fun a b=>Fd.add a (Fd.neg b)⟩
instance (priority:=50):OfNat K 0:=⟨Fd.zero⟩
instance (priority:=50):OfNat K 1:=⟨Fd.one⟩
instance (priority:=50):DecidableEq K:=Fd.dec
def inv(a:K):K:=Fd.inv a
theorem add_assoc(a b c:K):a+b+c=a+(b+c):=Fd.add_assoc' a b c
theorem add_comm(a b:K):a+b=b+a:=Fd.add_comm' a b
theorem add_zero(a:K):a+0=a:=Fd.add_zero' a
theorem zero_add(a:K):0+a=a:=by rw[add_comm,add_zero]
theorem add_neg(a:K):a+-a=0:=Fd.add_neg' a
theorem neg_add_self(a:K):-a+a=0:=by rw[add_comm,add_neg]
theorem sub_def(a b:K):a-b=a+-b:=rfl
theorem mul_assoc(a b c:K):a*b*c=a*(b*c):=Fd.mul_assoc' a b c
theorem mul_comm(a b:K):a*b=b*a:=Fd.mul_comm' a b
theorem mul_one(a:K):a*1=a:=Fd.mul_one' a
theorem one_mul(a:K):1*a=a:=by rw[mul_comm,mul_one]
theorem mul_add(a b c:K):a*(b+c)=a*b+a*c:=Fd.mul_add' a b c
theorem add_mul(a b c:K):(a+b)*c=a*c+b*c:=by rw[mul_comm,mul_add,mul_comm c a,mul_comm c b]
theorem mul_inv{a:K}(h:a≠0):a*inv a=1:=Fd.mul_inv' a h
theorem inv_mul{a:K}(h:a≠0):inv a*a=1:=by rw[mul_comm,mul_inv h]
theorem one_ne:(1:K)≠0:=Fd.one_ne'
theorem add_left_cancel{a b c:K}(h:a+b=a+c):b=c:=by
 have:-a+(a+b)=-a+(a+c):=by rw[h]
 rwa [←add_assoc,←add_assoc,neg_add_self,zero_add,zero_add]at this
theorem mul_zero(a:K):a*0=0:=by
 have:a*0+a*0=a*0+0:=by rw[←mul_add,add_zero,add_zero]
 exact add_left_cancel this
theorem zero_mul(a:K):0*a=0:=by rw[mul_comm,mul_zero]
theorem neg_eq_of{a b:K}(h:a+b=0):-a=b:=by
 apply add_left_cancel (a:=a)
 rw[add_neg,h]
theorem neg_mul(a b:K):-a*b=-(a*b):=by
 symm;apply neg_eq_of;rw[←add_mul,add_neg,zero_mul]
theorem mul_neg(a b:K):a*-b=-(a*b):=by rw[mul_comm,neg_mul,mul_comm]
theorem neg_neg(a:K):- -a=a:=neg_eq_of (neg_add_self a)
theorem neg_zero:-(0:K)=0:=neg_eq_of (add_zero 0)
theorem neg_add(a b:K):-(a+b)=-a+-b:=by
 apply neg_eq_of
 rw[add_assoc,←add_assoc b,add_comm b,add_assoc (-a),add_neg,add_zero,add_neg]
theorem sub_self(a:K):a-a=0:=add_neg a
theorem sub_eq_zero{a b:K}(h:a-b=0):a=b:=by
 have:a-b+b=0+b:=by rw[h]
 rwa [sub_def,add_assoc,neg_add_self,add_zero,zero_add]at this
theorem mul_eq_zero{a b:K}(h:a*b=0):a=0∨b=0:=by
 by_cases ha:a=0
 ·exact .inl ha
 ·right
  have:inv a*(a*b)=inv a*0:=by rw[h]
  rwa [←mul_assoc,inv_mul ha,one_mul,mul_zero]at this
theorem mul_ne_zero{a b:K}(ha:a≠0)(hb:b≠0):a*b≠0:=fun h=>(mul_eq_zero h).elim ha hb
theorem mul_left_cancel{a b c:K}(ha:a≠0)(h:a*b=a*c):b=c:=by
 have:inv a*(a*b)=inv a*(a*c):=by rw[h]
 rwa [←mul_assoc,←mul_assoc,inv_mul ha,one_mul,one_mul]at this
theorem inv_eq_of{a b:K}(h:a*b=1):inv a=b:=by
 have ha:a≠0:=by rintro rfl;rw[zero_mul]at h;exact one_ne h.symm
 apply mul_left_cancel ha
 rw[mul_inv ha,h]
theorem inv_inv{a:K}(ha:a≠0):inv (inv a)=a:=inv_eq_of (inv_mul ha)
theorem neg_ne_zero{a:K}(h:a≠0):-a≠0:=fun e=>h (by rw[←neg_neg a,e,neg_zero])
def pw(a:K):Nat→K
 | 0=>1
 | n+1=>pw a n*a
theorem pw_zero(a:K):pw a 0=1:=rfl
theorem pw_succ(a:K)(n:Nat):pw a (n+1)=pw a n*a:=rfl
theorem pw_one(a:K):pw a 1=a:=by rw[pw_succ,pw_zero,one_mul]
theorem pw_add(a:K)(m:Nat):∀n,pw a (m+n)=pw a m*pw a n
 | 0=>by rw[pw_zero,mul_one];rfl
 | n+1=>by rw[←Nat.add_assoc,pw_succ,pw_add a m n,pw_succ,mul_assoc]
theorem pw_mul(a:K)(m:Nat):∀n,pw a (m*n)=pw (pw a m) n
 | 0=>rfl
 | n+1=>by rw[Nat.mul_succ,pw_add,pw_mul a m n,pw_succ]
theorem one_pw:∀n,pw (1:K) n=1
 | 0=>rfl
 | n+1=>by rw[pw_succ,one_pw n,mul_one]
theorem mul_pw(a b:K):∀n,pw (a*b) n=pw a n*pw b n
 | 0=>by rw[pw_zero,pw_zero,pw_zero,mul_one]
 | n+1=>by rw[pw_succ,pw_succ,pw_succ,mul_pw a b n,mul_assoc,mul_assoc,←mul_assoc (pw b n) a b,mul_comm (pw b n) a,mul_assoc a]
theorem pw_ne_zero{a:K}(h:a≠0):∀n,pw a n≠0
 | 0=>one_ne
 | n+1=>mul_ne_zero (pw_ne_zero h n) h
end
inductive RE where
 | v (n:Nat)
 | zero
 | one
 | add (a b:RE)
 | mul (a b:RE)
 | neg (a:RE)
abbrev Mono:=List Nat
abbrev Pol:=List (Int×Mono)
def mcmp:Mono→Mono→Ordering
 | [],[]=>.eq
 | [],_=>.lt
 | _,[]=>.gt
 | a::x,b::y=>if a<b then .lt else if b<a then .gt else mcmp x y
def mins(a:Nat):Mono→Mono
 | []=>[a]
 | b::y=>if a≤b then a::b::y else b::mins a y
def mmul:Mono→Mono→Mono
 | [],y=>y
 | a::x,y=>mins a (mmul x y)
def padd1(c:Int)(m:Mono):Pol→Pol
 | []=>if c=0 then[] else[(c,m)]
 | (d,n)::r=>match mcmp m n with
  | .lt=>if c=0 then(d,n)::r else(c,m)::(d,n)::r
  | .eq=>if c+d=0 then r else(c+d,n)::r
  | .gt=>(d,n)::padd1 c m r
def padd:Pol→Pol→Pol
 | [],q=>q
 | (c,m)::p,q=>padd1 c m (padd p q)
def pmul1(c:Int)(m:Mono):Pol→Pol
 | []=>[]
 | (d,n)::r=>padd1 (c*d) (mmul m n) (pmul1 c m r)
def pmul:Pol→Pol→Pol
 | [],_=>[]
 | (c,m)::p,q=>padd (pmul1 c m q) (pmul p q)
def RE.norm:RE→Pol
 | .v n=>[(1,[n])]
 | .zero=>[]
 | .one=>[(1,[])]
 | .add a b=>padd a.norm b.norm
 | .mul a b=>pmul a.norm b.norm
 | .neg a=>pmul1 (-1) [] a.norm
section
variable {K:Type}[Fd K]
def RE.den(env:List K):RE→K
 | .v n=>env.getD n 0
 | .zero=>0
 | .one=>1
 | .add a b=>a.den env+b.den env
 | .mul a b=>a.den env*b.den env
 | .neg a=>- a.den env
def nsm(a:K):Nat→K
 | 0=>0
 | n+1=>nsm a n+a
def ism(a:K):Int→K
 | .ofNat n=>nsm a n
 | .negSucc n=>- nsm a (n+1)
theorem nsm_add(a:K)(m:Nat):∀n,nsm a (m+n)=nsm a m+nsm a n
 | 0=>by rw[show nsm a 0=0 from rfl,add_zero];rfl
 | n+1=>by rw[←Nat.add_assoc,show nsm a (m+n+1)=nsm a (m+n)+a from rfl,nsm_add a m n,add_assoc];rfl
theorem ism_sub(a:K)(m n:Nat):ism a (Int.subNatNat m n)=nsm a m+- nsm a n:=by
 rcases Nat.lt_or_ge m n with h|h
 ·obtain⟨k,rfl⟩:∃k,n=m+k+1:=⟨n-m-1,by omega⟩
  rw[Int.subNatNat_of_lt (by omega),show m+k+1-m=k+1 by omega]
  show-nsm a (k+1)=_
  rw[Nat.add_assoc,nsm_add a m (k+1),neg_add,←add_assoc,add_neg,zero_add]
 ·obtain⟨k,rfl⟩:∃k,m=n+k:=⟨m-n,by omega⟩
  rw[Int.subNatNat_of_le (by omega),show n+k-n=k by omega]
  show nsm a k=_
  rw[nsm_add,add_comm (nsm a n),add_assoc,add_neg,add_zero]
theorem ism_add(a:K)(m n:Int):ism a (m+n)=ism a m+ism a n:=by
 cases m with
 | ofNat m=>
  cases n with
  | ofNat n=>exact nsm_add a m n
  | negSucc n=>exact ism_sub a m (n+1)
 | negSucc m=>
  cases n with
  | ofNat n=>rw[add_comm];exact ism_sub a n (m+1)
  | negSucc n=>
   show-nsm a (m+n+1+1)=- nsm a (m+1)+- nsm a (n+1)
   rw[←neg_add,←nsm_add,show m+n+1+1=m+1+(n+1) by omega]
theorem ism_zero(a:K):ism a 0=0:=rfl
theorem ism_one(a:K):ism a 1=a:=zero_add a
theorem ism_neg(a:K)(n:Int):ism a (-n)=- ism a n:=by
 symm;apply neg_eq_of
 rw[←ism_add,show n+-n=0 by omega,ism_zero]
theorem nsm_mul(a b:K):∀n,nsm (a*b) n=nsm a n*b
 | 0=>by rw[show nsm (a*b) 0=0 from rfl,show nsm a 0=0 from rfl,zero_mul]
 | n+1=>by rw[show nsm (a*b) (n+1)=nsm (a*b) n+a*b from rfl,nsm_mul a b n,←add_mul];rfl
theorem ism_mul(a b:K)(n:Int):ism (a*b) n=ism a n*b:=by
 cases n with
 | ofNat n=>exact nsm_mul a b n
 | negSucc n=>show-nsm (a*b) (n+1)=- nsm a (n+1)*b;rw[nsm_mul,neg_mul]
theorem ism_mul_nat(a:K)(m:Int):∀n:Nat,ism a (m*n)=nsm (ism a m) n
 | 0=>by rw[show m*((0:Nat):Int)=0 by simp,ism_zero];rfl
 | n+1=>by rw[show m*((n+1:Nat):Int)=m*n+m by rw[Int.natCast_add,Int.mul_add];simp,ism_add,ism_mul_nat a m n];rfl
theorem ism_ism(a:K)(m n:Int):ism a (m*n)=ism (ism a m) n:=by
 cases n with
 | ofNat n=>exact ism_mul_nat a m n
 | negSucc n=>
  rw[show m*Int.negSucc n=-(m*((n+1:Nat):Int)) by rw[←Int.mul_neg];rfl,ism_neg,ism_mul_nat];rfl
theorem ism_mul_both(a b:K)(m n:Int):ism (a*b) (m*n)=ism a m*ism b n:=by
 rw[ism_ism,ism_mul,mul_comm (ism a m),ism_mul,mul_comm]
def mden(env:List K):Mono→K
 | []=>1
 | a::x=>env.getD a 0*mden env x
def pden(env:List K):Pol→K
 | []=>0
 | (c,m)::r=>ism (mden env m) c+pden env r
theorem mcmp_eq:∀(x y:Mono),mcmp x y=.eq→x=y
 | [],[],_=>rfl
 | [],_::_,h=>by simp[mcmp]at h
 | _::_,[],h=>by simp[mcmp]at h
 | a::x,b::y,h=>by
  simp only[mcmp]at h
  split at h
  ·cases h
  ·split at h
   ·cases h
   ·rw[mcmp_eq x y h,show a=b by omega]
theorem mins_den(env:List K)(a:Nat):∀(y:Mono),mden env (mins a y)=env.getD a 0*mden env y
 | []=>rfl
 | b::y=>by
  rw[mins]
  split
  ·rfl
  ·rw[show mden env (b::mins a y)=env.getD b 0*mden env (mins a y) from rfl,mins_den env a y,←mul_assoc,mul_comm (env.getD b 0),mul_assoc];rfl
theorem mmul_den(env:List K):∀(x y:Mono),mden env (mmul x y)=mden env x*mden env y
 | [],y=>by rw[mmul,show mden env []=1 from rfl,one_mul]
 | a::x,y=>by rw[mmul,mins_den,mmul_den env x y,←mul_assoc];rfl
theorem padd1_den(env:List K)(c:Int)(m:Mono):∀p,pden env (padd1 c m p)=ism (mden env m) c+pden env p
 | []=>by
  rw[padd1]
  split
  ·rename_i h;subst h;rw[ism_zero,zero_add]
  ·rfl
 | (d,n)::r=>by
  rw[padd1]
  split
  ·split
   ·rename_i h;subst h;rw[ism_zero,zero_add]
   ·rfl
  ·rename_i h
   have:=mcmp_eq _ _ h
   subst this
   rw[show pden env ((d,m)::r)=ism (mden env m) d+pden env r from rfl,←add_assoc,←ism_add]
   split
   ·rename_i h;rw[h,ism_zero,zero_add]
   ·rfl
  ·rw[show pden env ((d,n)::padd1 c m r)=ism (mden env n) d+pden env (padd1 c m r) from rfl,padd1_den env c m r,←add_assoc,add_comm (ism (mden env n) d),add_assoc];rfl
theorem padd_den(env:List K):∀p q,pden env (padd p q)=pden env p+pden env q
 | [],q=>by rw[padd,show pden env []=0 from rfl,zero_add]
 | (c,m)::p,q=>by rw[padd,padd1_den,padd_den env p q,←add_assoc];rfl
theorem pmul1_den(env:List K)(c:Int)(m:Mono):∀p,pden env (pmul1 c m p)=ism (mden env m) c*pden env p
 | []=>by rw[pmul1,show pden env []=0 from rfl,mul_zero]
 | (d,n)::r=>by rw[pmul1,padd1_den,pmul1_den env c m r,mmul_den,ism_mul_both,←mul_add];rfl
theorem pmul_den(env:List K):∀p q,pden env (pmul p q)=pden env p*pden env q
 | [],q=>by rw[pmul,show pden env []=0 from rfl,zero_mul]
 | (c,m)::p,q=>by rw[pmul,padd_den,pmul1_den,pmul_den env p q,←add_mul];rfl
theorem RE.norm_den(env:List K):∀e:RE,pden env e.norm=e.den env
 | .v n=>by
  show ism (env.getD n 0*1) 1+0=env.getD n 0
  rw[add_zero,ism_one,mul_one]
 | .zero=>rfl
 | .one=>by
  show ism (1:K) 1+0=1
  rw[add_zero,ism_one]
 | .add a b=>by rw[RE.norm,padd_den,RE.norm_den env a,RE.norm_den env b];rfl
 | .mul a b=>by rw[RE.norm,pmul_den,RE.norm_den env a,RE.norm_den env b];rfl
 | .neg a=>by
  rw[RE.norm,pmul1_den,RE.norm_den env a]
  show ism (1:K) (-1)*_=- _
  rw[ism_neg,ism_one,neg_mul,one_mul]
def polEq:Pol→Pol→Bool
 | [],[]=>true
 | (c,m)::p,(d,n)::q=>c==d&&m==n&&polEq p q
 | _,_=>false
theorem polEq_ok:∀p q,polEq p q=true→p=q
 | [],[],_=>rfl
 | [],_::_,h=>by simp[polEq]at h
 | _::_,[],h=>by simp[polEq]at h
 | (c,m)::p,(d,n)::q,h=>by
  simp only[polEq,Bool.and_eq_true,beq_iff_eq]at h
  rw[h.1.1,h.1.2,polEq_ok p q h.2]
theorem ring_eq(env:List K)(a b:RE)(h:polEq a.norm b.norm=true):a.den env=b.den env:=by
 rw[←RE.norm_den,←RE.norm_den,polEq_ok _ _ h]
end
end Go.RS
namespace Go.RS
section
variable {K:Type}[Fd K]
def sm:Nat→(Nat→K)→K
 | 0,_=>0
 | n+1,f=>sm n f+f n
theorem sm_succ(n:Nat)(f:Nat→K):sm (n+1) f=sm n f+f n:=rfl
theorem sm_0(f:Nat→K):sm 0 f=0:=rfl
theorem sm_1(f:Nat→K):sm 1 f=f 0:=zero_add _
theorem sm_congr{f g:Nat→K}:∀{n:Nat},(∀i,i<n→f i=g i)→sm n f=sm n g
 | 0,_=>rfl
 | n+1,h=>by rw[sm_succ,sm_succ,sm_congr (fun i hi=>h i (by omega)),h n (by omega)]
theorem sm_zero{f:Nat→K}:∀{n:Nat},(∀i,i<n→f i=0)→sm n f=0
 | 0,_=>rfl
 | n+1,h=>by rw[sm_succ,sm_zero (fun i hi=>h i (by omega)),h n (by omega),add_zero]
theorem sm_add(f g:Nat→K):∀n,sm n (fun i=>f i+g i)=sm n f+sm n g
 | 0=>(add_zero 0).symm
 | n+1=>by
  rw[sm_succ,sm_succ,sm_succ,sm_add f g n]
  exact(show(((sm n f)+(sm n g))+((f n)+(g n)))=(((sm n f)+(f n))+((sm n g)+(g n))) from ring_eq [(sm n f),(sm n g),(f n),(g n)] (.add (.add (.v 0) (.v 1)) (.add (.v 2) (.v 3))) (.add (.add (.v 0) (.v 2)) (.add (.v 1) (.v 3))) rfl)
theorem sm_mul(a:K)(f:Nat→K):∀n,a*sm n f=sm n (fun i=>a*f i)
 | 0=>mul_zero a
 | n+1=>by rw[sm_succ,sm_succ,mul_add,sm_mul a f n]
theorem sm_mul_r(a:K)(f:Nat→K)(n:Nat):sm n f*a=sm n (fun i=>f i*a):=by
 rw[mul_comm,sm_mul];exact sm_congr fun i _=>mul_comm _ _
theorem sm_neg(f:Nat→K):∀n,-sm n f=sm n (fun i=>- f i)
 | 0=>neg_zero
 | n+1=>by rw[sm_succ,sm_succ,neg_add,sm_neg f n]
theorem sm_succ'(f:Nat→K):∀n,sm (n+1) f=f 0+sm n (fun i=>f (i+1))
 | 0=>by rw[sm_succ,sm_0,sm_0,zero_add,add_zero]
 | n+1=>by rw[sm_succ,sm_succ' f n,sm_succ,add_assoc]
theorem sm_rev(f:Nat→K):∀n,sm n f=sm n (fun i=>f (n-1-i))
 | 0=>rfl
 | n+1=>by
  rw[sm_succ' (fun i=>f (n+1-1-i)),sm_succ,sm_rev f n,add_comm]
  congr 1
  exact sm_congr fun i _=>by rw[show n+1-1-(i+1)=n-1-i by omega]
theorem sm_split(f:Nat→K)(m:Nat):∀n,sm (m+n) f=sm m f+sm n (fun i=>f (m+i))
 | 0=>(add_zero _).symm
 | n+1=>by rw[←Nat.add_assoc,sm_succ,sm_split f m n,sm_succ,add_assoc]
theorem sm_single{f:Nat→K}{k:Nat}:∀{n:Nat},k<n→(∀i,i<n→i≠k→f i=0)→sm n f=f k
 | 0,h,_=>by omega
 | n+1,h,hz=>by
  rw[sm_succ]
  by_cases e:k=n
  ·subst e
   rw[sm_zero (fun i hi=>hz i (by omega) (by omega)),zero_add]
  ·rw[sm_single (by omega) (fun i hi=>hz i (by omega)),hz n (by omega) (fun h=>e h.symm),add_zero]
theorem sm_ext{f:Nat→K}{m n:Nat}(h:m≤n)(hz:∀i,m≤i→i<n→f i=0):sm n f=sm m f:=by
 obtain⟨k,rfl⟩:∃k,n=m+k:=⟨n-m,by omega⟩
 rw[sm_split,sm_zero (n:=k) (fun i hi=>hz _ (by omega) (by omega)),add_zero]
theorem sm_tri(f:Nat→Nat→K):∀n,sm (n+1) (fun k=>sm (k+1) (fun i=>f i (k-i)))=sm (n+1) (fun i=>sm (n-i+1) (fun j=>f i j))
 | 0=>rfl
 | n+1=>by
  rw[sm_succ,sm_tri f n,sm_succ (n+1) (fun i=>sm (n+1-i+1) (fun j=>f i j)),Nat.sub_self,sm_1]
  have e:sm (n+1) (fun i=>sm (n+1-i+1) (fun j=>f i j))=sm (n+1) (fun i=>sm (n-i+1) (fun j=>f i j))+sm (n+1) (fun i=>f i (n+1-i)):=by
   rw[←sm_add]
   refine sm_congr fun i hi=>?_
   rw[show n+1-i+1=(n-i+1)+1 by omega,sm_succ,show n-i+1=n+1-i by omega]
  rw[e,sm_succ (n+1) (fun i=>f i (n+1-i)),Nat.sub_self,add_assoc]
abbrev Ser(K:Type):=Nat→K
def cv(p q:Ser K):Ser K:=fun n=>sm (n+1) (fun i=>p i*q (n-i))
theorem cv_comm(p q:Ser K):cv p q=cv q p:=by
 funext n
 unfold cv
 rw[sm_rev]
 refine sm_congr fun i hi=>?_
 rw[show n+1-1-i=n-i by omega,show n-(n-i)=i by omega,mul_comm]
theorem cv_assoc(p q r:Ser K):cv (cv p q) r=cv p (cv q r):=by
 funext n
 unfold cv
 have h:=sm_tri (fun i j=>p i*q j*r (n-i-j)) n
 have e1:sm (n+1) (fun k=>sm (k+1) (fun i=>p i*q (k-i))*r (n-k))=sm (n+1) (fun k=>sm (k+1) (fun i=>p i*q (k-i)*r (n-i-(k-i)))):=by
  refine sm_congr fun k hk=>?_
  rw[sm_mul_r]
  refine sm_congr fun i hi=>?_
  rw[show n-i-(k-i)=n-k by omega]
 rw[e1,h]
 refine sm_congr fun i hi=>?_
 rw[sm_mul]
 refine sm_congr fun j hj=>?_
 rw[mul_assoc]
theorem cv_add_l(p q r:Ser K)(n:Nat):cv (fun i=>p i+q i) r n=cv p r n+cv q r n:=by
 unfold cv
 rw[←sm_add]
 exact sm_congr fun i _=>add_mul _ _ _
theorem cv_add_r(p q r:Ser K)(n:Nat):cv r (fun i=>p i+q i) n=cv r p n+cv r q n:=by
 unfold cv
 rw[←sm_add]
 exact sm_congr fun i _=>mul_add _ _ _
theorem cv_smul_l(a:K)(p q:Ser K)(n:Nat):cv (fun i=>a*p i) q n=a*cv p q n:=by
 unfold cv
 rw[sm_mul]
 exact sm_congr fun i _=>mul_assoc _ _ _
theorem cv_neg_l(p q:Ser K)(n:Nat):cv (fun i=>- p i) q n=- cv p q n:=by
 unfold cv
 rw[sm_neg]
 exact sm_congr fun i _=>neg_mul _ _
theorem cv_congr{p p' q q':Ser K}{n:Nat}(h:∀i,i≤n→p i=p' i)(k:∀i,i≤n→q i=q' i):cv p q n=cv p' q' n:=by
 unfold cv
 refine sm_congr fun i hi=>?_
 rw[h i (by omega),k (n-i) (by omega)]
theorem cv_zero(p q:Ser K):cv p q 0=p 0*q 0:=sm_1 _
def sh(m:Nat)(p:Ser K):Ser K:=fun n=>if m≤n then p (n-m) else 0
theorem sh_lt{m n:Nat}(p:Ser K)(h:n<m):sh m p n=0:=by unfold sh;rw[if_neg (by omega)]
theorem sh_ge{m n:Nat}(p:Ser K)(h:m≤n):sh m p n=p (n-m):=by unfold sh;rw[if_pos h]
theorem cv_sh(m:Nat)(p q:Ser K):cv (sh m p) q=sh m (cv p q):=by
 funext n
 by_cases h:m≤n
 ·rw[sh_ge _ h]
  unfold cv
  obtain⟨k,rfl⟩:∃k,n=m+k:=⟨n-m,by omega⟩
  rw[show m+k+1=m+(k+1) by omega,sm_split,sm_zero (n:=m) (fun i hi=>by rw[sh_lt _ hi,zero_mul]),zero_add,show m+k-m=k by omega]
  refine sm_congr fun i hi=>?_
  rw[sh_ge _ (by omega),show m+i-m=i by omega,show m+k-(m+i)=k-i by omega]
 ·rw[sh_lt _ (by omega)]
  exact sm_zero fun i hi=>by rw[sh_lt _ (by omega),zero_mul]
def s1:Ser K:=fun n=>if n=0 then 1 else 0
theorem cv_one_l(p:Ser K):cv s1 p=p:=by
 funext n
 unfold cv
 rw[sm_single (k:=0) (by omega) (fun i _ h=>by unfold s1;rw[if_neg h,zero_mul])]
 unfold s1
 rw[if_pos rfl,one_mul,Nat.sub_zero]
def dg(p:Ser K)(d:Nat):Prop:=∀i,d<i→p i=0
theorem dg_mono{p:Ser K}{d e:Nat}(h:dg p d)(he:d≤e):dg p e:=fun i hi=>h i (by omega)
theorem dg_cv{p q:Ser K}{a b:Nat}(hp:dg p a)(hq:dg q b):dg (cv p q) (a+b):=by
 intro n hn
 refine sm_zero fun i hi=>?_
 by_cases h:a<i
 ·rw[hp i h,zero_mul]
 ·rw[hq (n-i) (by omega),mul_zero]
def pv(p:Ser K)(d:Nat)(x:K):K:=sm (d+1) (fun i=>p i*pw x i)
theorem pv_ext{p:Ser K}{d e:Nat}(h:dg p d)(he:d≤e)(x:K):pv p e x=pv p d x:=
 sm_ext (by omega) fun i h1 h2=>by rw[h i (by omega),zero_mul]
theorem pv_cv{p q:Ser K}{a b:Nat}(hp:dg p a)(hq:dg q b)(x:K):pv (cv p q) (a+b) x=pv p a x*pv q b x:=by
 unfold pv cv
 have e1:sm (a+b+1) (fun n=>sm (n+1) (fun i=>p i*q (n-i))*pw x n)=sm (a+b+1) (fun n=>sm (n+1) (fun i=>p i*pw x i*(q (n-i)*pw x (n-i)))):=by
  refine sm_congr fun n hn=>?_
  rw[sm_mul_r]
  refine sm_congr fun i hi=>?_
  obtain⟨k,rfl⟩:∃k,n=i+k:=⟨n-i,by omega⟩
  rw[show i+k-i=k by omega,pw_add]
  exact(show(((p i)*(q k))*((pw x i)*(pw x k)))=(((p i)*(pw x i))*((q k)*(pw x k))) from ring_eq [(p i),(q k),(pw x i),(pw x k)] (.mul (.mul (.v 0) (.v 1)) (.mul (.v 2) (.v 3))) (.mul (.mul (.v 0) (.v 2)) (.mul (.v 1) (.v 3))) rfl)
 rw[e1,sm_tri (fun i j=>p i*pw x i*(q j*pw x j)),sm_mul_r,sm_ext (m:=a+1) (by omega) (fun i h1 h2=>by
  refine sm_zero fun j _=>?_
  rw[hp i (by omega),zero_mul,zero_mul])]
 refine sm_congr fun i hi=>?_
 rw[sm_mul,sm_ext (m:=b+1) (by omega) (fun j h1 h2=>by rw[hq j (by omega),zero_mul,mul_zero])]
def lin(X:K):Ser K:=fun n=>if n=0 then 1 else if n=1 then-X else 0
theorem dg_lin(X:K):dg (lin X) 1:=by
 intro i hi
 unfold lin
 rw[if_neg (by omega),if_neg (by omega)]
theorem pv_lin(X x:K):pv (lin X) 1 x=1-X*x:=by
 unfold pv lin
 rw[sm_succ,sm_1,if_pos rfl,if_neg (by omega),if_pos rfl,pw_zero,pw_one,mul_one,neg_mul];rfl
theorem cv_lin(X:K)(p:Ser K)(n:Nat):cv (lin X) p (n+1)=p (n+1)-X*p n:=by
 unfold cv
 rw[sm_succ',sm_succ',sm_zero (n:=n) (fun i _=>by unfold lin;rw[if_neg (by omega),if_neg (by omega),zero_mul])]
 unfold lin
 rw[if_pos rfl,if_neg (by omega),if_pos rfl,one_mul,add_zero,neg_mul];rfl
theorem cv_lin0(X:K)(p:Ser K):cv (lin X) p 0=p 0:=by
 rw[cv_zero];unfold lin;rw[if_pos rfl,one_mul]
def dl(X:K)(p:Ser K):Ser K:=fun n=>sm (n+1) (fun i=>p i*pw X (n-i))
theorem dl_zero(X:K)(p:Ser K):dl X p 0=p 0:=by
 unfold dl;rw[sm_1,pw_zero,mul_one]
theorem dl_succ(X:K)(p:Ser K)(n:Nat):dl X p (n+1)=X*dl X p n+p (n+1):=by
 unfold dl
 rw[sm_succ,Nat.sub_self,pw_zero,mul_one,sm_mul]
 congr 1
 refine sm_congr fun i hi=>?_
 rw[show n+1-i=(n-i)+1 by omega,pw_succ]
 exact(show((p i)*((pw X (n-i))*X))=(X*((p i)*(pw X (n-i)))) from ring_eq [(p i),(pw X (n-i)),X] (.mul (.v 0) (.mul (.v 1) (.v 2))) (.mul (.v 2) (.mul (.v 0) (.v 1))) rfl)
theorem cv_dl(X:K)(p:Ser K):cv (lin X) (dl X p)=p:=by
 funext n
 cases n with
 | zero=>rw[cv_lin0,dl_zero]
 | succ n=>rw[cv_lin,dl_succ];exact(show(((X*dl X p n)+(p (n+1)))-(X*dl X p n))=(p (n+1)) from ring_eq [(X*dl X p n),(p (n+1))] (.add (.add (.v 0) (.v 1)) (.neg (.v 0))) (.v 1) rfl)
theorem pw_inv_cancel{x X:K}(h:X*x=1)(n:Nat):pw X n*pw x n=1:=by rw[←mul_pw,h,one_pw]
theorem dl_dg{X x:K}(h:X*x=1){p:Ser K}{d:Nat}(hp:dg p (d+1))(hr:pv p (d+1) x=0):dg (dl X p) d:=by
 have key:∀n,d+1≤n→dl X p n=pw X n*pv p (d+1) x:=by
  intro n hn
  unfold dl pv
  rw[sm_ext (m:=d+1+1) (by omega) (fun i h1 h2=>by rw[hp i (by omega),zero_mul]),sm_mul]
  refine sm_congr fun i hi=>?_
  obtain⟨k,rfl⟩:∃k,n=k+i:=⟨n-i,by omega⟩
  rw[show k+i-i=k by omega,pw_add]
  have:=pw_inv_cancel h i
  have e:=(show(((pw X k)*(pw X i))*((p i)*(pw x i)))=(((p i)*(pw X k))*((pw X i)*(pw x i))) from ring_eq [(pw X k),(pw X i),(p i),(pw x i)] (.mul (.mul (.v 0) (.v 1)) (.mul (.v 2) (.v 3))) (.mul (.mul (.v 2) (.v 0)) (.mul (.v 1) (.v 3))) rfl)
  rw[e,this,mul_one]
 intro i hi
 rw[key i (by omega),hr,mul_zero]
def lins:List K→Ser K
 | []=>s1
 | X::l=>cv (lin X) (lins l)
theorem dg_s1:dg (s1:Ser K) 0:=by
 intro i hi;unfold s1;rw[if_neg (by omega)]
theorem dg_lins:∀l:List K,dg (lins l) l.length
 | []=>dg_s1
 | X::l=>by
  have:=dg_cv (dg_lin X) (dg_lins l)
  rw[show 1+l.length=(X::l).length by simp;omega]at this
  exact this
theorem lins_zero:∀l:List K,lins l 0=1
 | []=>rfl
 | X::l=>by rw[lins,cv_lin0,lins_zero l]
theorem pv_s1(x:K):pv s1 0 x=1:=by
 unfold pv;rw[sm_1,pw_zero,mul_one];rfl
theorem pv_lins_cons(X:K)(l:List K)(x:K):pv (lins (X::l)) (l.length+1) x=(1-X*x)*pv (lins l) l.length x:=by
 have:=pv_cv (dg_lin X) (dg_lins l) x
 rw[pv_lin,show 1+l.length=l.length+1 by omega]at this
 exact this
theorem pv_lins_mem:∀{l:List K} {X x:K},X ∈ l→X*x=1→pv (lins l) l.length x=0
 | [],_,_,h,_=>by simp at h
 | Y::l,X,x,h,e=>by
  rw[List.length_cons,pv_lins_cons]
  rcases List.mem_cons.1 h with rfl|h
  ·rw[e,sub_self,zero_mul]
  ·rw[pv_lins_mem h e,mul_zero]
theorem one_sub_ne{X Y x:K}(e:X*x=1)(h:X≠Y):1-Y*x≠0:=by
 intro h2
 apply h
 have hx:x≠0:=by rintro rfl;rw[mul_zero]at e;exact one_ne e.symm
 apply mul_left_cancel hx
 rw[mul_comm x X,mul_comm x Y,e]
 exact sub_eq_zero h2
theorem pv_lins_ne:∀{l:List K} {X x:K},X ∉ l→X*x=1→pv (lins l) l.length x≠0
 | [],_,x,_,_=>by rw[lins,List.length_nil,pv_s1];exact one_ne
 | Y::l,X,x,h,e=>by
  rw[List.length_cons,pv_lins_cons]
  refine mul_ne_zero (one_sub_ne e (fun e2=>h (by rw[e2];simp))) (pv_lins_ne (fun h2=>h (by simp[h2])) e)
theorem roots_div:∀(l:List K) (xs:List K) (p:Ser K) (d:Nat),l.length=xs.length→l.Nodup→(∀i (h:i<l.length) (h':i<xs.length),l[i]*xs[i]=1)→dg p (l.length+d)→(∀x ∈ xs,pv p (l.length+d) x=0)→∃q,dg q d∧p=cv (lins l) q
 | [],xs,p,d,_,_,_,hp,_=>⟨p,by simpa using hp,by rw[lins,cv_one_l]⟩
 | X::l,[],p,d,hl,_,_,_,_=>by simp at hl
 | X::l,x::xs,p,d,hl,hn,hx,hp,hr=>by
  have e:X*x=1:=hx 0 (by simp) (by simp)
  have hlen:l.length=xs.length:=by simpa using hl
  have hd:(X::l).length+d=(l.length+d)+1:=by simp;omega
  rw[hd]at hp hr
  have h1:=dl_dg e hp (hr x (by simp))
  have h2:p=cv (lin X) (dl X p):=(cv_dl X p).symm
  have hnot:X ∉ l:=(List.nodup_cons.1 hn).1
  obtain⟨q,hq,hq2⟩:=roots_div l xs (dl X p) d hlen (List.nodup_cons.1 hn).2 (fun i h h'=>hx (i+1) (by simpa using h) (by simpa using h')) h1 (by
   intro y hy
   have hp0:=hr y (by simp[hy])
   rw[h2]at hp0
   have hv:=pv_cv (dg_lin X) h1 y
   rw[show 1+(l.length+d)=l.length+d+1 by omega,hp0,pv_lin]at hv
   obtain⟨i,hi,rfl⟩:=List.getElem_of_mem hy
   have hi':i<l.length:=by omega
   have hy1:=hx (i+1) (by simpa using hi') (by simpa using hi)
   simp only[List.getElem_cons_succ]at hy1
   rcases mul_eq_zero hv.symm with h0|h0
   ·exact absurd h0 (one_sub_ne hy1 (fun e2=>hnot (by rw[←e2];exact List.getElem_mem _)))
   ·exact h0)
  exact⟨q,hq,by rw[lins,cv_assoc,←hq2,←h2]⟩
end
end Go.RS
namespace Go.RS
section
variable {K:Type}[Fd K]
structure Gen (s C:Ser K)(L n:Nat):Prop where
 one:C 0=1
 deg:dg C L
 gen:∀k,L≤k→k<n→cv C s k=0
theorem Gen.less{s C:Ser K}{L m n:Nat}(h:Gen s C L n)(hm:m≤n):Gen s C L m:=⟨h.one,h.deg,fun k h1 h2=>h.gen k h1 (by omega)⟩
theorem massey{s C D:Ser K}{L M n:Nat}(hC:Gen s C L n)(hd:cv C s n≠0)(hD:Gen s D M (n+1)):n+1≤L+M:=by
 apply Decidable.byContradiction
 intro hc
 apply hd
 have e1:cv D (cv C s) n=cv C s n:=by
  show sm (n+1) (fun j=>D j*cv C s (n-j))=_
  rw[sm_single (k:=0) (by omega) (fun j h1 h2=>by
   by_cases h:M<j
   ·rw[hD.deg j h,zero_mul]
   ·rw[hC.gen (n-j) (by omega) (by omega),mul_zero]),hD.one,one_mul,Nat.sub_zero]
 have e2:cv C (cv D s) n=0:=by
  refine sm_zero fun i hi=>?_
  by_cases h:L<i
  ·rw[hC.deg i h,zero_mul]
  ·rw[hD.gen (n-i) (by omega) (by omega),mul_zero]
 rw[←e1,←cv_assoc,cv_comm D C,cv_assoc,e2]
structure Reg (K:Type) where
 C:Ser K
 B:Ser K
 L:Nat
 m:Nat
 b:K
def Reg.init:Reg K:=⟨s1,s1,0,1,1⟩
def Reg.next(s:Ser K)(n:Nat)(r:Reg K):Reg K:=
 if cv r.C s n=0 then { r with m:=r.m+1 }
 else if 2*r.L≤n then⟨fun i=>r.C i-cv r.C s n*inv r.b*sh r.m r.B i,r.C,n+1-r.L,1,cv r.C s n⟩
 else { r with C:=fun i=>r.C i-cv r.C s n*inv r.b*sh r.m r.B i,m:=r.m+1 }
def Reg.run(s:Ser K):Nat→Reg K
 | 0=>Reg.init
 | n+1=>(Reg.run s n).next s n
structure RInv (s:Ser K)(n:Nat)(r:Reg K):Prop where
 gen:Gen s r.C r.L n
 le:r.L≤n
 min:∀D M,Gen s D M n→r.L≤M
 b:r.b≠0
 mp:0<r.m
 old:∃LB,dg r.B LB∧r.L+LB+r.m=n+1∧(∀t,LB≤t→t+r.m<n→cv r.B s t=0)∧(LB+r.m≤n→cv r.B s (n-r.m)=r.b)
theorem rinv_init(s:Ser K):RInv s 0 (Reg.init:Reg K):=by
 refine⟨⟨rfl,dg_s1,fun k _ h=>by omega⟩,Nat.le_refl _,fun _ _ _=>Nat.zero_le _,one_ne,Nat.zero_lt_one,0,dg_s1,rfl,fun t _ h=>by omega,fun h=>?_⟩
 simp[Reg.init]at h
theorem cv_next{s C B:Ser K}{a:K}{m k:Nat}:cv (fun i=>C i-a*sh m B i) s k=cv C s k-a*sh m (cv B s) k:=by
 have:(fun i=>C i-a*sh m B i)=(fun i=>C i+(fun j=>- (a*sh m B j)) i):=rfl
 rw[this,cv_add_l,cv_neg_l,cv_smul_l,cv_sh];rfl
theorem rinv_next{s:Ser K}{n:Nat}{r:Reg K}(h:RInv s n r):RInv s (n+1) (r.next s n):=by
 obtain⟨LB,o1,o2,o3,o4⟩:=h.old
 unfold Reg.next
 split
 ·rename_i hd
  refine⟨⟨h.gen.one,h.gen.deg,fun k h1 h2=>?_⟩,by have:=h.le;simp only;omega,fun D M hD=>h.min D M (hD.less (by omega)),h.b,Nat.succ_pos _,LB,o1,by simp only;omega,fun t h1 h2=>o3 t h1 (by simp only at h2;omega),fun h1=>?_⟩
  ·by_cases e:k=n
   ·rw[e];exact hd
   ·exact h.gen.gen k h1 (by omega)
  ·simp only at h1 ⊢
   rw[←o4 (by omega),show n+1-(r.m+1)=n-r.m by omega]
 ·rename_i hd
  have hone:(fun i=>r.C i-cv r.C s n*inv r.b*sh r.m r.B i) 0=1:=by
   have hm:=h.mp
   show r.C 0-_*sh r.m r.B 0=1
   rw[sh_lt _ hm,mul_zero,h.gen.one]
   exact(show(1-0)=1 from ring_eq [((1:K))] (.add .one (.neg .zero)) .one rfl)
  have hdeg:∀L',r.L≤L'→n+1-r.L≤L'→dg (fun i=>r.C i-cv r.C s n*inv r.b*sh r.m r.B i) L':=by
   intro L' h1 h2 i hi
   show r.C i-_*sh r.m r.B i=0
   rw[h.gen.deg i (by omega),sh_ge _ (by omega),o1 (i-r.m) (by omega),mul_zero]
   exact(show(0-0)=0 from ring_eq [((1:K))] (.add .zero (.neg .zero)) .zero rfl)
  have hgen:∀L',r.L≤L'→n+1-r.L≤L'→∀k,L'≤k→k<n+1→cv (fun i=>r.C i-cv r.C s n*inv r.b*sh r.m r.B i) s k=0:=by
   intro L' h1 h2 k h3 h4
   rw[cv_next,sh_ge _ (by omega)]
   by_cases e:k=n
   ·subst e
    rw[o4 (by omega),mul_assoc,inv_mul h.b,mul_one,sub_self]
   ·rw[h.gen.gen k (by omega) (by omega),o3 (k-r.m) (by omega) (by omega),mul_zero]
    exact(show(0-0)=0 from ring_eq [((1:K))] (.add .zero (.neg .zero)) .zero rfl)
  have hmin:∀D M,Gen s D M (n+1)→r.L≤M∧n+1-r.L≤M:=fun D M hD=>⟨h.min D M (hD.less (by omega)),by have:=massey h.gen hd hD;omega⟩
  by_cases hl:2*r.L≤n
  ·rw[if_pos hl]
   refine⟨⟨hone,hdeg _ (by simp only;omega) (Nat.le_refl _),hgen _ (by simp only;omega) (Nat.le_refl _)⟩,by simp only;omega,fun D M hD=>(hmin D M hD).2,hd,Nat.zero_lt_one,r.L,h.gen.deg,by simp only;omega,fun t h1 h2=>h.gen.gen t h1 (by simp only at h2;omega),fun _=>?_⟩
   simp only
   rw[show n+1-1=n by omega]
  ·rw[if_neg hl]
   have hl2:n+1-r.L≤r.L:=by omega
   refine⟨⟨hone,hdeg _ (Nat.le_refl _) hl2,hgen _ (Nat.le_refl _) hl2⟩,by have:=h.le;simp only;omega,fun D M hD=>(hmin D M hD).1,h.b,Nat.succ_pos _,LB,o1,by simp only;omega,fun t h1 h2=>o3 t h1 (by simp only at h2;omega),fun h1=>?_⟩
   simp only at h1 ⊢
   rw[←o4 (by omega),show n+1-(r.m+1)=n-r.m by omega]
theorem rinv_run(s:Ser K):∀n,RInv s n (Reg.run s n)
 | 0=>rinv_init s
 | n+1=>rinv_next (rinv_run s n)
theorem run_congr{s t:Ser K}:∀{n:Nat},(∀k,k<n→s k=t k)→Reg.run s n=Reg.run t n
 | 0,_=>rfl
 | n+1,h=>by
  have e:=run_congr (fun k hk=>h k (by omega):∀k,k<n→s k=t k)
  have e2:∀C:Ser K,cv C s n=cv C t n:=fun C=>cv_congr (fun _ _=>rfl) (fun i hi=>h i (by omega))
  simp only[Reg.run,e,Reg.next,e2]
def geo(X:K):Ser K:=fun n=>pw X n
theorem cv_geo(X:K):cv (lin X) (geo X)=s1:=by
 funext n
 cases n with
 | zero=>rw[cv_lin0];rfl
 | succ n=>
  rw[cv_lin]
  show pw X n*X-X*pw X n=0
  rw[mul_comm X,sub_self]
def gs:List (K×K)→Ser K
 | []=>fun _=>0
 | (y,X)::l=>fun n=>y*geo X n+gs l n
def xs:List (K×K)→List K:=List.map Prod.snd
def om:List (K×K)→Ser K
 | []=>fun _=>0
 | (y,X)::l=>fun n=>y*lins (xs l) n+cv (lin X) (om l) n
theorem cv_null(p:Ser K):cv p (fun _=>0)=fun _=>0:=by
 funext n
 exact sm_zero fun i _=>mul_zero _
theorem cv_smul_r(a:K)(p q:Ser K)(n:Nat):cv p (fun i=>a*q i) n=a*cv p q n:=by
 rw[cv_comm,cv_smul_l,cv_comm]
theorem cv_gs:∀l:List (K×K),cv (lins (xs l)) (gs l)=om l
 | []=>cv_null _
 | (y,X)::l=>by
  funext n
  show cv (cv (lin X) (lins (xs l))) (fun n=>y*geo X n+gs l n) n=_
  rw[cv_add_r,cv_smul_r,cv_comm (lin X),cv_assoc,cv_geo,cv_comm _ s1,cv_one_l,cv_comm (lins (xs l)),cv_assoc,cv_gs l]
  rfl
theorem xs_len(l:List (K×K)):(xs l).length=l.length:=by simp[xs]
theorem dg_om:∀l:List (K×K),∀i,l.length≤i→om l i=0
 | [],_,_=>rfl
 | (y,X)::l,i,h=>by
  have h:l.length+1≤i:=by simpa using h
  have h2:=dg_lins (xs l)
  rw[xs_len]at h2
  show y*lins (xs l) i+cv (lin X) (om l) i=0
  rw[h2 i (by omega),mul_zero,zero_add]
  cases i with
  | zero=>omega
  | succ i=>rw[cv_lin,dg_om l (i+1) (by omega),dg_om l i (by omega),mul_zero];exact(show(0-0)=0 from ring_eq [((1:K))] (.add .zero (.neg .zero)) .zero rfl)
theorem pv_add(p q:Ser K)(d:Nat)(x:K):pv (fun i=>p i+q i) d x=pv p d x+pv q d x:=by
 unfold pv;rw[←sm_add];exact sm_congr fun i _=>add_mul _ _ _
theorem pv_smul(a:K)(p:Ser K)(d:Nat)(x:K):pv (fun i=>a*p i) d x=a*pv p d x:=by
 unfold pv;rw[sm_mul];exact sm_congr fun i _=>mul_assoc _ _ _
theorem pv_om:∀(l:List (K×K)) (j:Nat) (h:j<l.length) (x:K),(l[j]).2*x=1→pv (om l) l.length x=(l[j]).1*pv (lins ((xs l).eraseIdx j)) (l.length-1) x
 | [],j,h,_,_=>by simp at h
 | (y,X)::l,0,h,x,e=>by
  have e:X*x=1:=e
  show pv (fun n=>y*lins (xs l) n+cv (lin X) (om l) n) (l.length+1) x=y*pv (lins (xs l)) (l.length+1-1) x
  have h1:dg (om l) l.length:=fun i hi=>dg_om l i (by omega)
  have h2:=pv_cv (dg_lin X) h1 x
  have h3:=dg_lins (xs l)
  rw[xs_len]at h3
  rw[show 1+l.length=l.length+1 by omega,pv_lin,e,sub_self,zero_mul]at h2
  rw[pv_add,pv_smul,h2,add_zero,Nat.add_sub_cancel,pv_ext h3 (by omega)]
 | (y,X)::l,j+1,h,x,e=>by
  have hj:j<l.length:=by simpa using h
  have e:(l[j]).2*x=1:=e
  show pv (fun n=>y*lins (xs l) n+cv (lin X) (om l) n) (l.length+1) x=(l[j]).1*pv (cv (lin X) (lins ((xs l).eraseIdx j))) (l.length+1-1) x
  have h1:dg (om l) l.length:=fun i hi=>dg_om l i (by omega)
  have h2:=pv_cv (dg_lin X) h1 x
  have h3:=dg_lins (xs l)
  have h4:=dg_lins ((xs l).eraseIdx j)
  have h5:((xs l).eraseIdx j).length=l.length-1:=by rw[List.length_eraseIdx_of_lt (by rw[xs_len];exact hj),xs_len]
  rw[h5]at h4
  rw[xs_len]at h3
  have h6:=pv_cv (dg_lin X) h4 x
  have hz:pv (lins (xs l)) l.length x=0:=by
   have:=pv_lins_mem (l:=xs l) (X:=(l[j]).2) (x:=x) (List.mem_map.2 ⟨l[j],List.getElem_mem _,rfl⟩) e
   rwa [xs_len]at this
  rw[show 1+(l.length-1)=l.length by omega]at h6
  rw[pv_add,pv_smul,pv_ext h3 (by omega),hz,mul_zero,zero_add,show l.length+1=1+l.length by omega,h2,pv_om l j hj x e,show 1+l.length-1=l.length by omega,h6]
  exact(show((pv (lin X) 1 x)*(((l[j]).1)*(pv (lins ((xs l).eraseIdx j)) (l.length-1) x)))=(((l[j]).1)*((pv (lin X) 1 x)*(pv (lins ((xs l).eraseIdx j)) (l.length-1) x))) from ring_eq [(pv (lin X) 1 x),((l[j]).1),(pv (lins ((xs l).eraseIdx j)) (l.length-1) x)] (.mul (.v 0) (.mul (.v 1) (.v 2))) (.mul (.v 1) (.mul (.v 0) (.v 2))) rfl)
theorem lins_top:∀l:List K,(∀X ∈ l,X≠0)→lins l l.length≠0
 | [],_=>one_ne
 | X::l,h=>by
  show cv (lin X) (lins l) (l.length+1)≠0
  rw[cv_lin,dg_lins l _ (by omega)]
  have h1:=lins_top l (fun Y hY=>h Y (by simp[hY]))
  have h2:=mul_ne_zero (h X (by simp)) h1
  intro h3
  apply neg_ne_zero h2
  rw[←h3]
  exact(show(-(X*lins l l.length))=(0-(X*lins l l.length)) from ring_eq [(X*lins l l.length)] (.neg (.v 0)) (.add .zero (.neg (.v 0))) rfl)
theorem mem_erase_ne{l:List K}(hn:l.Nodup){j:Nat}(hj:j<l.length):l[j] ∉ l.eraseIdx j:=by
 intro hm
 obtain⟨i,hi,he⟩:=List.getElem_of_mem hm
 rw[List.getElem_eraseIdx]at he
 have hl:=List.length_eraseIdx_of_lt hj
 split at he
 ·have:=(List.getElem_inj hn).1 he;omega
 ·have:=(List.getElem_inj hn).1 he;omega
theorem bm_unique{s C:Ser K}{L N:Nat}(hg:Gen s C L N)(hmin:∀D M,Gen s D M N→L≤M)(l:List (K×K))(hy:∀p ∈ l,p.1≠0)(hX:∀p ∈ l,p.2≠0)(hn:(xs l).Nodup)(hs:∀k,k<N→s k=gs l k)(ht:2*l.length≤N):C=lins (xs l)∧L=l.length:=by
 have hcv:∀(D:Ser K) k,k<N→cv D s k=cv D (gs l) k:=fun D k hk=>cv_congr (fun _ _=>rfl) (fun i hi=>hs i (by omega))
 have hdl:=dg_lins (xs l)
 rw[xs_len]at hdl
 have hL:L≤l.length:=hmin (lins (xs l)) l.length ⟨lins_zero _,hdl,fun k h1 h2=>by rw[hcv _ k h2,cv_gs,dg_om l k h1]⟩
 have hA:∀k,L≤k→k<N→cv C (gs l) k=0:=fun k h1 h2=>by rw[←hcv _ k h2];exact hg.gen k h1 h2
 have hP:cv C (om l)=cv (lins (xs l)) (fun k=>if k<L then cv C (gs l) k else 0):=by
  funext n
  by_cases hnN:n<N
  ·rw[←cv_gs,←cv_assoc,cv_comm C,cv_assoc]
   refine cv_congr (fun _ _=>rfl) (fun i hi=>?_)
   split
   ·rfl
   ·exact hA i (by omega) (by omega)
  ·rw[show cv C (om l) n=0 from sm_zero fun i hi=>by
    by_cases h:L<i
    ·rw[hg.deg i h,zero_mul]
    ·rw[dg_om l (n-i) (by omega),mul_zero]]
   refine(sm_zero fun i hi=>?_).symm
   by_cases h:l.length<i
   ·rw[hdl i h,zero_mul]
   ·by_cases h2:n-i<L
    ·have:n-i+i=n:=by omega
     exact absurd hnN (by omega)
    ·show lins (xs l) i*(if n-i<L then cv C (gs l) (n-i) else 0)=0
     rw[if_neg h2,mul_zero]
 have hroot:∀j (h:j<l.length),pv C L (inv (l[j]).2)=0:=by
  intro j h
  have hXj:=hX l[j] (List.getElem_mem _)
  have e:(l[j]).2*inv (l[j]).2=1:=mul_inv hXj
  have h1:dg (om l) l.length:=fun i hi=>dg_om l i (by omega)
  have h2:=pv_cv hg.deg h1 (inv (l[j]).2)
  have h3:dg (fun k=>if k<L then cv C (gs l) k else 0) L:=fun i hi=>if_neg (by omega)
  have h4:=pv_cv hdl h3 (inv (l[j]).2)
  have hz:pv (lins (xs l)) l.length (inv (l[j]).2)=0:=by
   have:=pv_lins_mem (l:=xs l) (X:=(l[j]).2) (List.mem_map.2 ⟨l[j],List.getElem_mem _,rfl⟩) e
   rwa [xs_len]at this
  rw[hz,zero_mul,←hP,show l.length+L=L+l.length by omega,h2]at h4
  rcases mul_eq_zero h4 with h5|h5
  ·exact h5
  ·rw[pv_om l j h _ e]at h5
   rcases mul_eq_zero h5 with h6|h6
   ·exact absurd h6 (hy _ (List.getElem_mem _))
   ·exfalso
    have hj':j<(xs l).length:=by rw[xs_len];exact h
    have hnm:=mem_erase_ne hn hj'
    have h7:=pv_lins_ne (X:=(l[j]).2) (l:=(xs l).eraseIdx j) (by simpa[xs]using hnm) e
    rw[List.length_eraseIdx_of_lt hj',xs_len]at h7
    exact h7 h6
 have hdeg:dg C ((xs l).length+0):=dg_mono hg.deg (by rw[xs_len];omega)
 obtain⟨q,hq,hCq⟩:=roots_div (xs l) ((xs l).map inv) C 0 (by simp) hn (fun i h h'=>by
   rw[List.getElem_map]
   exact mul_inv (by
    obtain⟨p,hp,he⟩:=List.mem_map.1 (List.getElem_mem h)
    rw[←he];exact hX p hp)) hdeg (fun x hx=>by
   obtain⟨X,hXm,rfl⟩:=List.mem_map.1 hx
   obtain⟨p,hp,rfl⟩:=List.mem_map.1 hXm
   obtain⟨j,hj,rfl⟩:=List.getElem_of_mem hp
   rw[pv_ext hg.deg (by rw[xs_len];omega)]
   exact hroot j hj)
 have hq0:q 0=1:=by
  have:=hg.one
  rwa [hCq,cv_zero,lins_zero,one_mul]at this
 have hqs:q=s1:=by
  funext i
  unfold s1
  split
  ·rename_i h;rw[h];exact hq0
  ·exact hq i (by omega)
 have hC:C=lins (xs l):=by rw[hCq,hqs,cv_comm,cv_one_l]
 refine⟨hC,?_⟩
 have htop:=lins_top (xs l) (fun X hXm=>by
  obtain⟨p,hp,rfl⟩:=List.mem_map.1 hXm
  exact hX p hp)
 rw[xs_len,←hC]at htop
 by_cases h:L<l.length
 ·exact absurd (hg.deg _ h) htop
 ·omega
end
end Go.RS
namespace Go.RS
theorem nodup_len:∀(q:Nat) (l:List Nat),l.Nodup→(∀x ∈ l,x<q)→l.length≤q
 | 0,l,_,h=>by
  cases l with
  | nil=>simp
  | cons a l=>exact absurd (h a (by simp)) (by omega)
 | q+1,l,hn,h=>by
  by_cases hm:q ∈ l
  ·have h1:=List.length_erase_of_mem hm
   have h2:=nodup_len q (l.erase q) (hn.erase q) (fun x hx=>by
    have h3:=h x (List.mem_of_mem_erase hx)
    have h4:x≠q:=(hn.mem_erase_iff.1 hx).1
    omega)
   have h3:=List.length_pos_of_mem hm
   omega
  ·have:=nodup_len q l hn (fun x hx=>by
    have h3:=h x hx
    have h4:x≠q:=fun e=>hm (e▸hx)
    omega)
   omega
theorem nodup_map_range{α:Type}{f:Nat→α}{n:Nat}(h:∀i j,i<n→j<n→f i=f j→i=j):((List.range n).map f).Nodup:=by
 rw[List.nodup_iff_pairwise_ne]at *
 rw[List.pairwise_map]
 refine List.Pairwise.imp_of_mem ?_ (List.nodup_iff_pairwise_ne.1 List.nodup_range)
 intro a b ha hb hne e
 exact hne (h a b (by simpa using ha) (by simpa using hb) e)
theorem surj_of_inj{q:Nat}{f:Nat→Nat}(h1:∀i,i<q→f i<q)(h2:∀i j,i<q→j<q→f i=f j→i=j){y:Nat}(hy:y<q):∃x,x<q∧f x=y:=by
 apply Decidable.byContradiction
 intro hc
 have hnot:y ∉ (List.range q).map f:=by
  intro hm
  obtain⟨x,hx,e⟩:=List.mem_map.1 hm
  exact hc ⟨x,by simpa using hx,e⟩
 have:=nodup_len q (y::(List.range q).map f) (List.nodup_cons.2 ⟨hnot,nodup_map_range h2⟩) (by
  intro x hx
  rcases List.mem_cons.1 hx with rfl|hx
  ·exact hy
  ·obtain⟨i,hi,rfl⟩:=List.mem_map.1 hx
   exact h1 i (by simpa using hi))
 simp at this
 omega
theorem least{P:Nat→Prop}:∀n,P n→∃m,m≤n∧P m∧∀k,k<m→¬ P k:=by
 intro n
 induction n using Nat.strongRecOn with
 | _ n ih=>
  intro h
  by_cases hc:∃k,k<n∧P k
  ·obtain⟨k,h1,h2⟩:=hc
   obtain⟨m,a,b,c⟩:=ih k h1 h2
   exact⟨m,by omega,b,c⟩
  ·exact⟨n,Nat.le_refl _,h,fun k hk hp=>hc ⟨k,hk,hp⟩⟩
def Pr(p:Nat):Prop:=2≤p∧∀d,2≤d→d<p→¬ d ∣ p
theorem pr_coprime{p m:Nat}(hp:Pr p)(h:¬ p ∣ m):Nat.gcd p m=1:=by
 have hd:=Nat.gcd_dvd_left p m
 have hpos:0<Nat.gcd p m:=Nat.gcd_pos_of_pos_left m (by have:=hp.1;omega)
 have hle:=Nat.le_of_dvd (by have:=hp.1;omega) hd
 apply Decidable.byContradiction
 intro hc
 by_cases he:Nat.gcd p m=p
 ·apply h
  rw[←he]
  exact Nat.gcd_dvd_right p m
 ·exact hp.2 _ (by omega) (by omega) hd
section
variable {K:Type}[Fd K]
def Ord(a:K)(n:Nat):Prop:=0<n∧pw a n=1∧∀m,0<m→m<n→pw a m≠1
theorem pw_mod{a:K}{n:Nat}(h:pw a n=1)(k:Nat):pw a (k%n)=pw a k:=by
 have e:k=n*(k/n)+k%n:=(Nat.div_add_mod k n).symm
 have:pw a k=pw a (n*(k/n))*pw a (k%n):=by rw[←pw_add,←e]
 rw[this,pw_mul,h,one_pw,one_mul]
theorem ord_dvd{a:K}{n k:Nat}(h:Ord a n)(hk:pw a k=1):n ∣ k:=by
 obtain⟨h1,h2,h3⟩:=h
 rw[Nat.dvd_iff_mod_eq_zero]
 apply Decidable.byContradiction
 intro hc
 exact h3 (k%n) (by omega) (Nat.mod_lt k h1) (by rw[pw_mod h2,hk])
structure Num (K:Type)[Fd K] where
 q:Nat
 val:K→Nat
 lt:∀x,val x<q
 inj:∀x y,val x=val y→x=y
 sur:∀i,i<q→∃x,val x=i
 v0:val 0=0
variable (N:Num K)
theorem Num.elems:∃l:List K,l.Nodup∧l.length=N.q-1∧(∀x,x ∈ l↔x≠0):=by
 have hf:∃f:Nat→K,∀i,i<N.q→N.val (f i)=i:=
  ⟨fun i=>if h:i<N.q then(N.sur i h).choose else 0,fun i h=>by simp only[h,dif_pos];exact(N.sur i h).choose_spec⟩
 obtain⟨f,hf⟩:=hf
 refine⟨(List.range (N.q-1)).map (fun i=>f (i+1)),nodup_map_range ?_,by simp,fun x=>?_⟩
 ·intro i j hi hj e
  have h1:=hf (i+1) (by omega)
  have h2:=hf (j+1) (by omega)
  rw[e,h2]at h1
  omega
 ·constructor
  ·intro hm e
   obtain⟨i,hi,e2⟩:=List.mem_map.1 hm
   have hi0:i<N.q-1:=by simpa using hi
   have h1:=hf (i+1) (by omega)
   have e2:f (i+1)=x:=e2
   rw[e2,e,N.v0]at h1
   omega
  ·intro h
   have hv:N.val x≠0:=fun e=>h (N.inj x 0 (by rw[e,N.v0]))
   have hl:=N.lt x
   refine List.mem_map.2 ⟨N.val x-1,by simp;omega,?_⟩
   show f (N.val x-1+1)=x
   apply N.inj
   rw[hf _ (by omega)]
   omega
theorem Num.ord(a:K)(ha:a≠0):∃n,Ord a n∧n≤N.q-1:=by
 have hex:∃n,0<n∧pw a n=1∧n≤N.q-1:=by
  apply Classical.byContradiction
  intro hc
  obtain⟨l,_,hl,hmem⟩:=N.elems
  have hinj:∀i j,i<N.q→j<N.q→N.val (pw a i)=N.val (pw a j)→i=j:=by
   have key:∀i k,i+k<N.q→pw a i=pw a (i+k)→k=0:=by
    intro i k hk e
    rw[pw_add]at e
    have e2:pw a k=1:=by
     symm
     apply mul_left_cancel (pw_ne_zero ha i)
     rw[mul_one];exact e
    apply Decidable.byContradiction
    intro hk0
    exact hc ⟨k,by omega,e2,by omega⟩
   intro i j hi hj e
   have e:=N.inj _ _ e
   rcases Nat.le_total i j with h|h
   ·have:=key i (j-i) (by omega) (by rw[show i+(j-i)=j by omega];exact e);omega
   ·have:=key j (i-j) (by omega) (by rw[show j+(i-j)=i by omega];exact e.symm);omega
  have hlen:=nodup_len N.q (0::(List.range N.q).map (fun i=>N.val (pw a i))) (List.nodup_cons.2 ⟨by
   intro hm
   obtain⟨i,_,e⟩:=List.mem_map.1 hm
   exact pw_ne_zero ha i (N.inj _ _ (by rw[N.v0];exact e)),nodup_map_range hinj⟩) (by
   intro x hx
   rcases List.mem_cons.1 hx with rfl|hx
   ·exact Nat.lt_of_le_of_lt (Nat.zero_le _) (N.lt 0)
   ·obtain⟨i,_,rfl⟩:=List.mem_map.1 hx
    exact N.lt _)
  simp at hlen
  omega
 obtain⟨n,h1,h2,h3⟩:=hex
 obtain⟨m,hm1,⟨hm2,hm3⟩,hm4⟩:=least (P:=fun k=>0<k∧pw a k=1) n ⟨h1,h2⟩
 exact⟨m,⟨hm2,hm3,fun k hk hlt e=>hm4 k hlt ⟨hk,e⟩⟩,by omega⟩
end
end Go.RS
namespace Go.RS
instance boolFd:Fd Bool where
 add:=xor
 mul:=and
 neg:=id
 zero:=false
 one:=true
 inv:=id
 add_assoc':=by decide
 add_comm':=by decide
 add_zero':=by decide
 add_neg':=by decide
 mul_assoc':=by decide
 mul_comm':=by decide
 mul_one':=by decide
 mul_add':=by decide
 mul_inv':=by decide
 one_ne':=by decide
 dec:=inferInstance
def bt(a:Nat):Ser Bool:=fun i=>a.testBit i
theorem bt_inj{a b:Nat}(h:bt a=bt b):a=b:=Nat.eq_of_testBit_eq fun i=>congrFun h i
theorem bt_xor(a b:Nat):bt (a ^^^ b)=fun i=>bt a i+bt b i:=by
 funext i;exact Nat.testBit_xor a b i
theorem bt_dg{a d:Nat}(h:a<2^(d+1)):dg (bt a) d:=fun i hi=>Nat.testBit_lt_two_pow (Nat.lt_of_lt_of_le h (Nat.pow_le_pow_right (by omega) (by omega)))
theorem lt_of_dg{a d:Nat}(h:dg (bt a) d):a<2^(d+1):=Nat.lt_pow_two_of_testBit a fun i hi=>h i (by omega)
def ofB:Nat→(Nat→Bool)→Nat
 | 0,_=>0
 | n+1,f=>ofB n f ||| (if f n=true then 2^n else 0)
theorem ofB_bit(f:Nat→Bool)(i:Nat):∀n,(ofB n f).testBit i=(decide (i<n)&&f i)
 | 0=>by simp[ofB]
 | n+1=>by
  rw[ofB,Nat.testBit_or,ofB_bit f i n]
  by_cases h:i=n
  ·subst h
   cases hf:f i<;>simp
  ·have h1:decide (i<n+1)=decide (i<n):=by rw[Bool.eq_iff_iff];simp;omega
   rw[h1]
   split
   ·rw[Nat.testBit_two_pow]
    have:decide (n=i)=false:=by simp;omega
    rw[this,Bool.or_false]
   ·simp
def cl(a b:Nat):Nat:=ofB (a+b+1) (cv (bt a) (bt b))
theorem lt_two(a:Nat):a<2^(a+1):=Nat.lt_of_lt_of_le Nat.lt_two_pow_self (Nat.pow_le_pow_right (by omega) (by omega))
theorem bt_cl(a b:Nat):bt (cl a b)=cv (bt a) (bt b):=by
 funext i
 show(ofB (a+b+1) (cv (bt a) (bt b))).testBit i=_
 rw[ofB_bit]
 by_cases h:i<a+b+1
 ·simp[h]
 ·rw[dg_cv (bt_dg (lt_two a)) (bt_dg (lt_two b)) i (by omega)]
  simp[h];rfl
theorem cl_comm(a b:Nat):cl a b=cl b a:=bt_inj (by rw[bt_cl,bt_cl,cv_comm])
theorem cl_assoc(a b c:Nat):cl (cl a b) c=cl a (cl b c):=bt_inj (by rw[bt_cl,bt_cl,bt_cl,bt_cl,cv_assoc])
theorem cl_xor(a b c:Nat):cl a (b ^^^ c)=cl a b ^^^ cl a c:=bt_inj (by
 rw[bt_cl,bt_xor,bt_xor,bt_cl,bt_cl];funext n;exact cv_add_r _ _ _ _)
theorem xor_cl(a b c:Nat):cl (a ^^^ b) c=cl a c ^^^ cl b c:=by rw[cl_comm,cl_xor,cl_comm c a,cl_comm c b]
theorem bt_pow(k:Nat):bt (2^k)=sh k s1:=by
 funext i
 show(2^k).testBit i=_
 rw[Nat.testBit_two_pow]
 unfold sh s1
 by_cases h:k=i
 ·subst h;simp;rfl
 ·by_cases h2:k≤i
  ·rw[if_pos h2,if_neg (by omega)];simp[h];rfl
  ·rw[if_neg h2];simp[h];rfl
theorem cl_pow(a k:Nat):cl a (2^k)=a <<< k:=bt_inj (by
 rw[cl_comm,bt_cl,bt_pow,cv_sh,cv_one_l]
 funext i
 show sh k (bt a) i=(a <<< k).testBit i
 rw[Nat.testBit_shiftLeft]
 by_cases h:k≤i
 ·rw[sh_ge _ h];simp[h,bt]
 ·rw[sh_lt _ (by omega)];simp[h];rfl)
theorem cl_one(a:Nat):cl a 1=a:=by have:=cl_pow a 0;simpa using this
theorem bt_0:bt 0=fun _=>0:=by funext i;exact Nat.zero_testBit i
theorem cl_zero(a:Nat):cl a 0=0:=bt_inj (by rw[bt_cl,bt_0,cv_null'])
where cv_null' {p:Ser Bool}:cv p (fun _=>0)=fun _=>0:=by funext n;exact sm_zero fun i _=>mul_zero _
theorem log_le{n:Nat}(h:n≠0):2^n.log2≤n:=Nat.log2_self_le h
theorem lt_log(n:Nat):n<2^(n.log2+1):=Nat.lt_log2_self
theorem log_bit{n:Nat}(h:n≠0):n.testBit n.log2=true:=by
 apply Decidable.byContradiction
 intro hc
 have hb:n.testBit n.log2=false:=by simpa using hc
 have:n<2^n.log2:=Nat.lt_pow_two_of_testBit n fun i hi=>by
  by_cases e:i=n.log2
  ·rw[e];exact hb
  ·exact Nat.testBit_lt_two_pow (Nat.lt_of_lt_of_le (lt_log n) (Nat.pow_le_pow_right (by omega) (by omega)))
 have:=log_le h
 omega
theorem log_of{n d:Nat}(h1:2^d≤n)(h2:n<2^(d+1)):n.log2=d:=by
 have hn:n≠0:=by have:0<2^d:=Nat.pow_pos (by omega);omega
 have h3:=log_le hn
 have h4:=lt_log n
 have a:n.log2<d+1:=(Nat.pow_lt_pow_iff_right (by omega)).1 (Nat.lt_of_le_of_lt h3 h2)
 have b:d<n.log2+1:=(Nat.pow_lt_pow_iff_right (by omega)).1 (Nat.lt_of_le_of_lt h1 h4)
 omega
theorem cl_top{a b:Nat}(ha:a≠0)(hb:b≠0):(cl a b).testBit (a.log2+b.log2)=true:=by
 have:=congrFun (bt_cl a b) (a.log2+b.log2)
 show bt (cl a b) (a.log2+b.log2)=true
 rw[this]
 unfold cv
 rw[sm_single (k:=a.log2) (by omega) (fun i hi hne=>by
  by_cases h:a.log2<i
  ·rw[bt_dg (lt_log a) i h,zero_mul]
  ·rw[bt_dg (lt_log b) _ (by omega),mul_zero])]
 rw[show a.log2+b.log2-a.log2=b.log2 by omega]
 show(a.testBit a.log2&&b.testBit b.log2)=true
 rw[log_bit ha,log_bit hb];rfl
theorem cl_lt{a b:Nat}:cl a b<2^(a.log2+b.log2+1):=lt_of_dg (by
 rw[bt_cl];exact dg_cv (bt_dg (lt_log a)) (bt_dg (lt_log b)))
theorem cl_ne_zero{a b:Nat}(ha:a≠0)(hb:b≠0):cl a b≠0:=by
 intro h
 have:=cl_top ha hb
 rw[h,Nat.zero_testBit]at this
 cases this
theorem cl_log{a b:Nat}(ha:a≠0)(hb:b≠0):(cl a b).log2=a.log2+b.log2:=
 log_of (Nat.ge_two_pow_of_testBit (cl_top ha hb)) cl_lt
theorem xor_cancel{a b c:Nat}(h:a ^^^ b=c):a=c ^^^ b:=by rw[←h,Nat.xor_assoc,Nat.xor_self,Nat.xor_zero]
theorem cl_div(q:Nat)(hq:q≠0):∀p,∃m r,r<2^q.log2∧p=cl q m ^^^ r:=by
 intro p
 induction p using Nat.strongRecOn with
 | _ p ih=>
  by_cases h:p<2^q.log2
  ·exact⟨0,p,h,by rw[cl_zero,Nat.zero_xor]⟩
  ·have hp:p≠0:=by have:0<2^q.log2:=Nat.pow_pos (by omega);omega
   have hle:q.log2≤p.log2:=by
    have h1:=lt_log p
    have:2^q.log2<2^(p.log2+1):=by omega
    have:=(Nat.pow_lt_pow_iff_right (by omega:1<2)).1 this
    omega
   have hs:(q <<< (p.log2-q.log2)).log2=p.log2:=by
    rw[←cl_pow,cl_log hq (Nat.pos_iff_ne_zero.1 (Nat.pow_pos (by omega))),log_of (Nat.le_refl _) (Nat.pow_lt_pow_right (by omega) (by omega))];omega
   have hs0:q <<< (p.log2-q.log2)≠0:=by rw[←cl_pow];exact cl_ne_zero hq (Nat.pos_iff_ne_zero.1 (Nat.pow_pos (by omega)))
   have hlt:p ^^^ q <<< (p.log2-q.log2)<2^p.log2:=Nat.lt_pow_two_of_testBit _ fun i hi=>by
    rw[Nat.testBit_xor]
    by_cases e:i=p.log2
    ·have:=log_bit hs0
     rw[hs]at this
     rw[e,log_bit hp,this];rfl
    ·have h1:=bt_dg (lt_log p) i (by omega)
     have h2:=bt_dg (lt_log (q <<< (p.log2-q.log2))) i (by omega)
     have h1:p.testBit i=false:=h1
     have h2:(q <<< (p.log2-q.log2)).testBit i=false:=h2
     rw[h1,h2];rfl
   obtain⟨m,r,hr,he⟩:=ih _ (Nat.lt_of_lt_of_le hlt (log_le hp))
   refine⟨m ^^^ 2^(p.log2-q.log2),r,hr,?_⟩
   rw[cl_xor,cl_pow]
   conv=>lhs;rw[xor_cancel he]
   rw[Nat.xor_assoc,Nat.xor_comm r,←Nat.xor_assoc]
theorem cl_small{q m:Nat}(hq:q≠0)(h:cl q m<2^q.log2):m=0:=by
 apply Decidable.byContradiction
 intro hm
 have:=Nat.ge_two_pow_of_testBit (cl_top hq hm)
 have h2:2^q.log2≤2^(q.log2+m.log2):=Nat.pow_le_pow_right (by omega) (by omega)
 omega
theorem rem_uniq{q m m' r r':Nat}(hq:q≠0)(hr:r<2^q.log2)(hr':r'<2^q.log2)(h:cl q m ^^^ r=cl q m' ^^^ r'):r=r':=by
 have e:cl q (m ^^^ m')=r ^^^ r':=by
  rw[cl_xor]
  have h1:=xor_cancel h
  rw[h1,Nat.xor_assoc,Nat.xor_assoc,Nat.xor_comm r (cl q m'),←Nat.xor_assoc r',Nat.xor_comm r',←Nat.xor_assoc,←Nat.xor_assoc,Nat.xor_self,Nat.zero_xor,Nat.xor_comm]
 have hm:=cl_small hq (by rw[e];exact Nat.xor_lt_two_pow hr hr')
 rw[hm,cl_zero]at e
 have:=xor_cancel e.symm
 rw[Nat.zero_xor]at this
 exact this
def Irr(p:Nat):Prop:=∀t,2≤t→2*t.log2≤p.log2→¬ ∃m,p=cl t m
theorem irr_prime{p a b:Nat}(hi:Irr p)(ha:a<2^p.log2)(hb:b<2^p.log2)(hm:∃m,cl a b=cl p m):a=0∨b=0:=by
 apply Decidable.byContradiction
 intro hc
 have ha0:a≠0:=fun e=>hc (.inl e)
 have hb0:b≠0:=fun e=>hc (.inr e)
 have hp0:p≠0:=by
  rintro rfl
  have h:Nat.log2 0=0:=by decide
  rw[h]at ha;omega
 obtain⟨a',_,⟨h1,h2,m,h3⟩,hmin⟩:=least (P:=fun a=>a≠0∧a<2^p.log2∧∃m,cl a b=cl p m) a ⟨ha0,ha,hm⟩
 obtain⟨q,r,hr,he⟩:=cl_div a' h1 p
 have hr0:r=0:=by
  apply Decidable.byContradiction
  intro hr0
  have hlt:r<a':=Nat.lt_of_lt_of_le hr (log_le h1)
  refine hmin r hlt ⟨hr0,by omega,b ^^^ cl q m,?_⟩
  have e:r=p ^^^ cl a' q:=by rw[he,Nat.xor_comm (cl a' q) r,Nat.xor_assoc,Nat.xor_self,Nat.xor_zero]
  rw[cl_xor,e,xor_cl,cl_comm a' q,cl_assoc,h3,←cl_assoc,cl_comm q p,cl_assoc]
 rw[hr0,Nat.xor_zero]at he
 have hq0:q≠0:=by rintro rfl;rw[cl_zero]at he;exact hp0 he
 have hlog:=cl_log h1 hq0
 rw[←he]at hlog
 have ha2:2≤a':=by
  have:a'≠1:=by
   rintro rfl
   rw[cl_comm,cl_one]at h3
   have:=cl_small hp0 (by rw[←h3];exact hb)
   rw[this,cl_zero]at h3
   exact hb0 h3
  omega
 have hal:a'.log2<p.log2:=by
  have:=Nat.lt_of_le_of_lt (log_le h1) h2
  exact(Nat.pow_lt_pow_iff_right (by omega:1<2)).1 this
 have hq2:2≤q:=by
  have:q≠1:=by
   rintro rfl
   have h:Nat.log2 1=0:=by decide
   omega
  omega
 rcases Nat.lt_or_ge p.log2 (2*a'.log2)with h|h
 ·exact hi q hq2 (by omega) ⟨a',by rw[cl_comm];exact he⟩
 ·exact hi a' ha2 h ⟨q,he⟩
structure FD where
 q:Nat
 poly:Nat
def FD.Ok(f:FD):Prop:=(f.poly=0∧2<f.q∧f.q≤4096∧Pr f.q)∨(f.poly≠0∧2≤f.poly∧f.poly.log2≤12∧f.q=2^f.poly.log2∧Irr f.poly)
structure El (f:FD) where
 val:Nat
 lt:val<f.q
theorem El.ext{f:FD}{a b:El f}(h:a.val=b.val):a=b:=by
 cases a;cases b;simp at h;subst h;rfl
theorem log_pos{p:Nat}(h:2≤p):1≤p.log2:=by
 have h1:=lt_log p
 apply Decidable.byContradiction
 intro hc
 have:p.log2=0:=by omega
 rw[this]at h1
 omega
theorem FD.Ok.two{f:FD}(h:f.Ok):2≤f.q∧f.q≤4096:=by
 rcases h with ⟨_,h1,h2,_⟩|⟨_,h1,h2,h3,_⟩
 ·omega
 ·rw[h3]
  have:=log_pos h1
  have a:2^1≤2^f.poly.log2:=Nat.pow_le_pow_right (by omega) this
  have b:2^f.poly.log2≤2^12:=Nat.pow_le_pow_right (by omega) h2
  omega
theorem rem_ex(p q:Nat)(hq:q≠0):∃r,r<2^q.log2∧∃m,p=cl q m ^^^ r:=by
 obtain⟨m,r,h1,h2⟩:=cl_div q hq p;exact⟨r,h1,m,h2⟩
noncomputable def rm(p q:Nat):Nat:=if h:q≠0 then(rem_ex p q h).choose else 0
theorem rm_lt{q:Nat}(hq:q≠0)(p:Nat):rm p q<2^q.log2:=by
 unfold rm;rw[dif_pos hq];exact(rem_ex p q hq).choose_spec.1
theorem rm_eq{q:Nat}(hq:q≠0)(p:Nat):∃m,p=cl q m ^^^ rm p q:=by
 unfold rm;rw[dif_pos hq];exact(rem_ex p q hq).choose_spec.2
theorem rm_of{q:Nat}(hq:q≠0){p r m:Nat}(hr:r<2^q.log2)(h:p=cl q m ^^^ r):rm p q=r:=by
 obtain⟨m',h'⟩:=rm_eq hq p
 exact rem_uniq hq (rm_lt hq p) hr (h'.symm.trans h)
theorem rm_add{q:Nat}(hq:q≠0)(p m:Nat):rm (p ^^^ cl q m) q=rm p q:=by
 obtain⟨m',h'⟩:=rm_eq hq p
 refine rm_of hq (rm_lt hq p) (m:=m' ^^^ m) ?_
 rw[cl_xor]
 conv=>lhs;rw[h']
 rw[Nat.xor_assoc,Nat.xor_comm (rm p q),Nat.xor_assoc]
theorem rm_self{q r:Nat}(hq:q≠0)(hr:r<2^q.log2):rm r q=r:=rm_of hq hr (m:=0) (by rw[cl_zero,Nat.zero_xor])
theorem rm_xor{q:Nat}(hq:q≠0)(a b:Nat):rm (a ^^^ b) q=rm a q ^^^ rm b q:=by
 obtain⟨m,h⟩:=rm_eq hq a
 obtain⟨m',h'⟩:=rm_eq hq b
 refine rm_of hq (Nat.xor_lt_two_pow (rm_lt hq a) (rm_lt hq b)) (m:=m ^^^ m') ?_
 rw[cl_xor]
 conv=>lhs;rw[h,h']
 rw[Nat.xor_assoc,Nat.xor_assoc,←Nat.xor_assoc (rm a q),Nat.xor_comm (rm a q),Nat.xor_assoc (cl q m')]
theorem rm_cl_l{q:Nat}(hq:q≠0)(a b:Nat):rm (cl (rm a q) b) q=rm (cl a b) q:=by
 obtain⟨m,h⟩:=rm_eq hq a
 have e:cl a b=cl (rm a q) b ^^^ cl q (cl m b):=by
  conv=>lhs;rw[h]
  rw[xor_cl,cl_assoc,Nat.xor_comm]
 rw[e,rm_add hq]
theorem rm_cl_r{q:Nat}(hq:q≠0)(a b:Nat):rm (cl a (rm b q)) q=rm (cl a b) q:=by rw[cl_comm,rm_cl_l hq,cl_comm]
noncomputable def fadd(f:FD)(a b:Nat):Nat:=if f.poly=0 then(a+b)%f.q else a ^^^ b
noncomputable def fmul(f:FD)(a b:Nat):Nat:=if f.poly=0 then a*b%f.q else rm (cl a b) f.poly
def fneg(f:FD)(a:Nat):Nat:=if f.poly=0 then(f.q-a)%f.q else a
theorem fadd_lt{f:FD}(h:f.Ok){a b:Nat}(ha:a<f.q)(hb:b<f.q):fadd f a b<f.q:=by
 unfold fadd
 rcases h with ⟨h0,h1,_⟩|⟨h0,h1,h2,h3,_⟩
 ·rw[if_pos h0];exact Nat.mod_lt _ (by omega)
 ·rw[if_neg h0,h3];exact Nat.xor_lt_two_pow (by rw[←h3];exact ha) (by rw[←h3];exact hb)
theorem fmul_lt{f:FD}(h:f.Ok)(a b:Nat):fmul f a b<f.q:=by
 unfold fmul
 rcases h with ⟨h0,h1,_⟩|⟨h0,h1,h2,h3,_⟩
 ·rw[if_pos h0];exact Nat.mod_lt _ (by omega)
 ·rw[if_neg h0,h3];exact rm_lt h0 _
theorem fneg_lt{f:FD}(h:f.Ok){a:Nat}(ha:a<f.q):fneg f a<f.q:=by
 unfold fneg
 have:=h.two
 split
 ·exact Nat.mod_lt _ (by omega)
 ·exact ha
theorem fmul_comm(f:FD)(a b:Nat):fmul f a b=fmul f b a:=by
 unfold fmul;rw[Nat.mul_comm,cl_comm]
theorem fmul_assoc{f:FD}(h:f.Ok)(a b c:Nat):fmul f (fmul f a b) c=fmul f a (fmul f b c):=by
 unfold fmul
 rcases h with ⟨h0,h1,_⟩|⟨h0,h1,h2,h3,_⟩
 ·rw[if_pos h0,if_pos h0,if_pos h0,if_pos h0,Nat.mod_mul_mod,Nat.mul_mod_mod,Nat.mul_assoc]
 ·rw[if_neg h0,if_neg h0,if_neg h0,if_neg h0,rm_cl_l h0,rm_cl_r h0,cl_assoc]
theorem fmul_add{f:FD}(h:f.Ok)(a b c:Nat):fmul f a (fadd f b c)=fadd f (fmul f a b) (fmul f a c):=by
 unfold fmul fadd
 rcases h with ⟨h0,h1,_⟩|⟨h0,h1,h2,h3,_⟩
 ·simp only[if_pos h0]
  rw[Nat.mul_mod_mod,Nat.mul_add,←Nat.add_mod]
 ·simp only[if_neg h0]
  rw[cl_xor,rm_xor h0]
theorem pr_dvd_mul{p a b:Nat}(hp:Pr p)(h:p ∣ a*b):p ∣ a∨p ∣ b:=by
 by_cases ha:p ∣ a
 ·exact .inl ha
 ·exact .inr (Nat.Coprime.dvd_of_dvd_mul_left (pr_coprime hp ha) h)
theorem fmul_eq_zero{f:FD}(h:f.Ok){a b:Nat}(ha:a<f.q)(hb:b<f.q)(e:fmul f a b=0):a=0∨b=0:=by
 unfold fmul at e
 rcases h with ⟨h0,h1,_,hp⟩|⟨h0,h1,h2,h3,hi⟩
 ·rw[if_pos h0]at e
  have hd:=Nat.dvd_of_mod_eq_zero e
  rcases pr_dvd_mul hp hd with h|h
  ·left
   apply Decidable.byContradiction
   intro hc
   have:=Nat.le_of_dvd (by omega) h
   omega
  ·right
   apply Decidable.byContradiction
   intro hc
   have:=Nat.le_of_dvd (by omega) h
   omega
 ·rw[if_neg h0]at e
  obtain⟨m,hm⟩:=rm_eq h0 (cl a b)
  rw[e,Nat.xor_zero]at hm
  exact irr_prime hi (by rw[←h3];exact ha) (by rw[←h3];exact hb) ⟨m,hm⟩
theorem fadd_neg{f:FD}(h:f.Ok){a:Nat}(ha:a<f.q):fadd f a (fneg f a)=0:=by
 unfold fadd fneg
 rcases h with ⟨h0,h1,_⟩|⟨h0,h1,h2,h3,_⟩
 ·rw[if_pos h0,if_pos h0,Nat.add_mod_mod,show a+(f.q-a)=f.q by omega,Nat.mod_self]
 ·rw[if_neg h0,if_neg h0,Nat.xor_self]
theorem fadd_assoc(f:FD)(a b c:Nat):fadd f (fadd f a b) c=fadd f a (fadd f b c):=by
 unfold fadd
 split
 ·rw[Nat.mod_add_mod,Nat.add_mod_mod,Nat.add_assoc]
 ·rw[Nat.xor_assoc]
theorem fadd_comm(f:FD)(a b:Nat):fadd f a b=fadd f b a:=by
 unfold fadd;rw[Nat.add_comm,Nat.xor_comm]
theorem fadd_zero{f:FD}(h:f.Ok){a:Nat}(ha:a<f.q):fadd f a 0=a:=by
 unfold fadd
 split
 ·rw[Nat.add_zero,Nat.mod_eq_of_lt ha]
 ·rw[Nat.xor_zero]
theorem fmul_one{f:FD}(h:f.Ok){a:Nat}(ha:a<f.q):fmul f a 1=a:=by
 unfold fmul
 rcases h with ⟨h0,h1,_⟩|⟨h0,h1,h2,h3,_⟩
 ·rw[if_pos h0,Nat.mul_one,Nat.mod_eq_of_lt ha]
 ·rw[if_neg h0,cl_one,rm_self h0 (by rw[←h3];exact ha)]
theorem fmul_zero{f:FD}(h:f.Ok)(a:Nat):fmul f a 0=0:=by
 unfold fmul
 rcases h with ⟨h0,h1,_⟩|⟨h0,h1,h2,h3,_⟩
 ·rw[if_pos h0];simp
 ·rw[if_neg h0,cl_zero,rm_self h0 (Nat.pow_pos (by omega))]
theorem fadd_cancel{f:FD}(h:f.Ok){a b c:Nat}(ha:a<f.q)(hb:b<f.q)(hc:c<f.q)(e:fadd f a b=fadd f a c):b=c:=by
 have:fadd f (fneg f a) (fadd f a b)=fadd f (fneg f a) (fadd f a c):=by rw[e]
 rw[←fadd_assoc,←fadd_assoc,fadd_comm f (fneg f a),fadd_neg h ha,fadd_comm f 0,fadd_comm f 0,fadd_zero h hb,fadd_zero h hc]at this
 exact this
theorem finv_ex{f:FD}(h:f.Ok){a:Nat}(ha:a<f.q)(h0:a≠0):∃b,b<f.q∧fmul f a b=1:=by
 refine surj_of_inj (fun i _=>fmul_lt h a i) (fun i j hi hj e=>?_) (by have:=h.two;omega)
 have hn:=fneg_lt h hj
 have e2:fmul f a (fadd f i (fneg f j))=0:=by
  rw[fmul_add h,e,←fmul_add h,fadd_neg h hj,fmul_zero h]
 rcases fmul_eq_zero h ha (fadd_lt h hi hn) e2 with h1|h1
 ·exact absurd h1 h0
 ·apply fadd_cancel h hn hi hj
  rw[fadd_comm f _ i,h1,fadd_comm f _ j,fadd_neg h hj]
@[reducible] noncomputable def FD.Ok.fd{f:FD}(h:f.Ok):Fd (El f) where
 add a b:=⟨fadd f a.val b.val,fadd_lt h a.lt b.lt⟩
 mul a b:=⟨fmul f a.val b.val,fmul_lt h _ _⟩
 neg a:=⟨fneg f a.val,fneg_lt h a.lt⟩
 zero:=⟨0,by have:=h.two;omega⟩
 one:=⟨1,by have:=h.two;omega⟩
 inv a:=if e:a.val≠0 then⟨(finv_ex h a.lt e).choose,(finv_ex h a.lt e).choose_spec.1⟩ else a
 add_assoc' a b c:=El.ext (fadd_assoc f _ _ _)
 add_comm' a b:=El.ext (fadd_comm f _ _)
 add_zero' a:=El.ext (fadd_zero h a.lt)
 add_neg' a:=El.ext (fadd_neg h a.lt)
 mul_assoc' a b c:=El.ext (fmul_assoc h _ _ _)
 mul_comm' a b:=El.ext (fmul_comm f _ _)
 mul_one' a:=El.ext (fmul_one h a.lt)
 mul_add' a b c:=El.ext (fmul_add h _ _ _)
 mul_inv' a ha:=by
  have e:a.val≠0:=fun e=>ha (El.ext e)
  apply El.ext
  simp only[dif_pos e]
  exact(finv_ex h a.lt e).choose_spec.2
 one_ne':=by intro e;have:=congrArg El.val e;simp at this
 dec a b:=if e:a.val=b.val then isTrue (El.ext e) else isFalse fun e2=>e (by rw[e2])
noncomputable def FD.Ok.num{f:FD}(h:f.Ok):@Num (El f) h.fd:=@Num.mk (El f) h.fd f.q El.val El.lt (fun _ _=>El.ext) (fun i hi=>⟨⟨i,hi⟩,rfl⟩) rfl
end Go.RS
namespace Go.RS
class OkC (f:FD):Prop where
 ok:f.Ok
noncomputable instance {f:FD}[h:OkC f]:Fd (El f):=h.ok.fd
section
variable {f:FD}[OkC f]
theorem val_0:(0:El f).val=0:=rfl
theorem val_1:(1:El f).val=1:=rfl
theorem val_mul(a b:El f):(a*b).val=fmul f a.val b.val:=rfl
theorem val_add(a b:El f):(a+b).val=fadd f a.val b.val:=rfl
theorem ne_zero_val{a:El f}(h:a≠0):a.val≠0:=fun e=>h (El.ext e)
theorem eq_zero_val{a:El f}(h:a.val=0):a=0:=El.ext h
end
section
variable {K:Type}[Fd K]
theorem pw_inj{g:K}{n:Nat}(hg:g≠0)(h:Ord g n):∀i j,i<n→j<n→pw g i=pw g j→i=j:=by
 have key:∀i k,i+k<n→pw g i=pw g (i+k)→k=0:=by
  intro i k hk e
  rw[pw_add]at e
  have e2:pw g k=1:=by
   symm
   apply mul_left_cancel (pw_ne_zero hg i)
   rw[mul_one];exact e
  apply Decidable.byContradiction
  intro hk0
  exact h.2.2 k (by omega) (by omega) e2
 intro i j hi hj e
 rcases Nat.le_total i j with h|h
 ·have:=key i (j-i) (by omega) (by rw[show i+(j-i)=j by omega];exact e);omega
 ·have:=key j (i-j) (by omega) (by rw[show j+(i-j)=i by omega];exact e.symm);omega
theorem Num.pow_sur(N:Num K){g:K}(hg:g≠0)(h:Ord g (N.q-1)){x:K}(hx:x≠0):∃n,n<N.q-1∧pw g n=x:=by
 have hv:∀{y:K},y≠0→N.val y≠0:=fun hy e=>hy (N.inj _ 0 (by rw[e,N.v0]))
 obtain⟨n,hn,e⟩:=surj_of_inj (q:=N.q-1) (f:=fun i=>N.val (pw g i)-1) (fun i hi=>by
   have h1:=N.lt (pw g i)
   have h2:=hv (pw_ne_zero hg i)
   omega) (fun i j hi hj e=>by
   have h1:=hv (pw_ne_zero hg i)
   have h2:=hv (pw_ne_zero hg j)
   exact pw_inj hg h i j hi hj (N.inj _ _ (by omega))) (y:=N.val x-1) (by
   have h1:=N.lt x
   have h2:=hv hx
   omega)
 refine⟨n,hn,N.inj _ _ ?_⟩
 have h1:=hv (pw_ne_zero hg n)
 have h2:=hv hx
 omega
end
section
variable {f:FD}[OkC f]
theorem pow_sur{g:El f}(hg:g≠0)(h:Ord g (f.q-1)){x:El f}(hx:x≠0):∃n,n<f.q-1∧pw g n=x:=Num.pow_sur (OkC.ok (f:=f)).num hg h hx
end
section
variable {K:Type}[Fd K]
theorem inv_pw{g:K}{n k m:Nat}(h:pw g n=1)(hk:k+m=n):inv (pw g k)=pw g m:=by
 apply inv_eq_of
 rw[←pw_add,hk,h]
theorem div_pw{g:K}{n i j:Nat}(h:Ord g n)(hi:i<n)(hj:j<n):pw g ((i+n-j)%n)=pw g i*inv (pw g j):=by
 rw[pw_mod h.2.1,inv_pw (m:=n-j) h.2.1 (by omega),←pw_add,show i+n-j=i+(n-j) by omega]
theorem mul_pw'{g:K}{n i j:Nat}(h:Ord g n):pw g ((i+j)%n)=pw g i*pw g j:=by
 rw[pw_mod h.2.1,pw_add]
end
end Go.RS
namespace Go.RS
section
variable {K:Type}[Fd K]
def co(l:List K):Ser K:=fun i=>l.getD i 0
def tab(n:Nat)(F:Nat→K):List K:=(List.range n).map F
theorem tab_len(n:Nat)(F:Nat→K):(tab n F).length=n:=by simp[tab]
theorem co_lt{l:List K}{i:Nat}(h:i<l.length):co l i=l[i]:=by
 unfold co;rw[List.getD_eq_getElem?_getD,List.getElem?_eq_getElem h];rfl
theorem co_ge{l:List K}{i:Nat}(h:l.length≤i):co l i=0:=by
 unfold co;rw[List.getD_eq_getElem?_getD,List.getElem?_eq_none h];rfl
theorem tab_getD{n:Nat}{F:Nat→K}{i:Nat}(h:i<n):(tab n F).getD i 0=F i:=by
 simp[tab,List.getD_eq_getElem?_getD,h]
theorem co_tab(n:Nat)(F:Nat→K)(i:Nat):co (tab n F) i=if i<n then F i else 0:=by
 split
 ·rename_i h;exact tab_getD h
 ·rename_i h;exact co_ge (by rw[tab_len];omega)
theorem tab_congr{n:Nat}{F G:Nat→K}(h:∀i,i<n→F i=G i):tab n F=tab n G:=by
 unfold tab
 apply List.map_congr_left
 intro i hi
 exact h i (by simpa using hi)
theorem tab_co(l:List K):tab l.length (co l)=l:=by
 apply List.ext_getElem (by rw[tab_len])
 intro i h1 h2
 simp only[tab,List.getElem_map,List.getElem_range]
 exact co_lt h2
theorem tab_set{n:Nat}{F:Nat→K}{k:Nat}{v:K}:(tab n F).set k v=tab n (fun i=>if i=k then v else F i):=by
 apply List.ext_getElem
 ·simp[tab]
 ·intro i h1 h2
  rw[List.getElem_set]
  simp only[tab,List.getElem_map,List.getElem_range]
  split
  ·rename_i h;rw[if_pos h.symm]
  ·rename_i h;rw[if_neg (fun e=>h e.symm)]
theorem replicate_tab(n:Nat):List.replicate n (0:K)=tab n (fun _=>0):=by
 apply List.ext_getElem
 ·simp[tab]
 ·intro i h1 h2;simp[tab]
theorem tab_eq{n:Nat}{F:Nat→K}{l:List K}(h:l.length=n)(h2:∀i,i<n→co l i=F i):l=tab n F:=by
 rw[←tab_co l,h];exact tab_congr h2
theorem list_co{l m:List K}(h:l.length=m.length)(h2:∀i,i<l.length→co l i=co m i):l=m:=by
 rw[←tab_co l,←tab_co m,h];exact tab_congr (by rw[←h];exact h2)
theorem dg_co(l:List K):dg (co l) (l.length-1):=fun i hi=>co_ge (by omega)
def hor(l:List K)(x:K):K:=l.foldr (fun c v=>v*x+c) 0
theorem hor_sm(x:K):∀l:List K,hor l x=sm l.length (fun i=>co l i*pw x i)
 | []=>rfl
 | c::l=>by
  show hor l x*x+c=_
  rw[List.length_cons,sm_succ',hor_sm x l,sm_mul_r]
  have e0:co (c::l) 0*pw x 0=c:=mul_one c
  rw[e0,add_comm]
  congr 1
  refine sm_congr fun i hi=>?_
  show co l i*pw x i*x=co l i*(pw x i*x)
  rw[mul_assoc]
theorem hor_pv{l:List K}{d:Nat}(h:dg (co l) d)(x:K):hor l x=pv (co l) d x:=by
 rw[hor_sm]
 unfold pv
 rcases Nat.le_total l.length (d+1)with h1|h1
 ·exact(sm_ext h1 fun i a b=>by rw[co_ge a,zero_mul]).symm
 ·exact sm_ext h1 fun i a b=>by rw[h i (by omega),zero_mul]
def hval(l:List K)(x:K):K:=l.foldl (fun v c=>v*x+c) 0
theorem hval_append(l m:List K)(x:K):hval (l++m) x=m.foldl (fun v c=>v*x+c) (hval l x):=by
 unfold hval;rw[List.foldl_append]
theorem hval_take_succ{l:List K}{i:Nat}(h:i<l.length)(x:K):hval (l.take (i+1)) x=hval (l.take i) x*x+co l i:=by
 rw[List.take_add_one,List.getElem?_eq_getElem h,hval_append]
 show _*x+l[i]=_
 rw[co_lt h]
theorem hval_hor(l:List K)(x:K):hval l x=hor l.reverse x:=by
 unfold hval hor;rw[List.foldr_reverse]
theorem hval_sm(x:K):∀l:List K,hval l x=sm l.length (fun i=>co l i*pw x (l.length-1-i)):=by
 intro l
 rw[hval_hor,hor_sm,List.length_reverse,sm_rev]
 refine sm_congr fun i hi=>?_
 have:co l.reverse (l.length-1-i)=co l i:=by
  rw[co_lt (by rw[List.length_reverse];omega),co_lt hi,List.getElem_reverse]
  congr 1
  omega
 rw[this]
def rows(p q:Ser K)(i k:Nat):K:=sm i (fun a=>p a*sh a q k)
theorem rows_cv{p q:Ser K}{n:Nat}(hp:∀i,n≤i→p i=0)(k:Nat):rows p q n k=cv p q k:=by
 unfold rows cv
 have e1:sm (max n (k+1)) (fun a=>p a*sh a q k)=sm n (fun a=>p a*sh a q k):=sm_ext (by omega) fun i h1 h2=>by rw[hp i h1,zero_mul]
 have e2:sm (max n (k+1)) (fun a=>p a*sh a q k)=sm (k+1) (fun a=>p a*sh a q k):=sm_ext (by omega) fun i h1 h2=>by rw[sh_lt _ (by omega),mul_zero]
 rw[←e1,e2]
 exact sm_congr fun i hi=>by rw[sh_ge _ (by omega)]
theorem rows_succ(p q:Ser K)(i k:Nat):rows p q (i+1) k=rows p q i k+p i*sh i q k:=rfl
def bml(s:Ser K):Nat→Nat×Nat
 | 0=>(1,1)
 | n+1=>if cv (Reg.run s n).C s n=0 then bml s n
  else(max (bml s n).1 ((bml s n).2+(Reg.run s n).m),if 2*(Reg.run s n).L≤n then(bml s n).1 else(bml s n).2)
theorem bml_ok(s:Ser K):∀n,(∀i,(bml s n).1≤i→(Reg.run s n).C i=0)∧(∀i,(bml s n).2≤i→(Reg.run s n).B i=0)∧1≤(bml s n).1
 | 0=>by
  refine⟨fun i hi=>?_,fun i hi=>?_,Nat.le_refl _⟩
  ·show(s1:Ser K) i=0
   unfold s1;rw[if_neg (by simp[bml]at hi;omega)]
  ·show(s1:Ser K) i=0
   unfold s1;rw[if_neg (by simp[bml]at hi;omega)]
 | n+1=>by
  obtain⟨h1,h2,h3⟩:=bml_ok s n
  simp only[bml,Reg.run,Reg.next]
  split
  ·exact⟨h1,h2,h3⟩
  ·have hC:∀i,max (bml s n).1 ((bml s n).2+(Reg.run s n).m)≤i→(Reg.run s n).C i-cv (Reg.run s n).C s n*inv (Reg.run s n).b*sh (Reg.run s n).m (Reg.run s n).B i=0:=by
    intro i hi
    rw[h1 i (by omega),sh_ge _ (by omega),h2 (i-(Reg.run s n).m) (by omega),mul_zero]
    exact(show(0-0)=0 from ring_eq [((1:K))] (.add .zero (.neg .zero)) .zero rfl)
   split
   ·exact⟨hC,h1,by simp only;omega⟩
   ·exact⟨hC,h2,by simp only;omega⟩
def trim:List K→List K
 | []=>[]
 | a::l=>match trim l with
  | []=>if a=0 then[] else[a]
  | m=>a::m
theorem trim_snoc_zero:∀l:List K,trim (l++[0])=trim l
 | []=>by simp[trim]
 | a::l=>by simp only[List.cons_append,trim,trim_snoc_zero l]
theorem trim_snoc_ne{b:K}(hb:b≠0):∀l:List K,trim (l++[b])=l++[b]
 | []=>by simp[trim,hb]
 | a::l=>by
  simp only[List.cons_append,trim,trim_snoc_ne hb l]
  split
  ·rename_i h;simp at h
  ·rfl
theorem trim_take{l:List K}:∀{n:Nat},n≤l.length→(∀i,n≤i→co l i=0)→trim (l.take n)=trim l:=by
 intro n hn hz
 have key:∀k,n+k≤l.length→trim (l.take (n+k))=trim (l.take n):=by
  intro k
  induction k with
  | zero=>intro _;rfl
  | succ k ih=>
   intro hk
   rw[←Nat.add_assoc,List.take_add_one,List.getElem?_eq_getElem (show n+k<l.length by omega)]
   have:l[n+k]=0:=by rw[←co_lt (show n+k<l.length by omega)];exact hz _ (by omega)
   rw[this,Option.toList_some,trim_snoc_zero,ih (by omega)]
 have:=key (l.length-n) (by omega)
 rw[show n+(l.length-n)=l.length by omega,List.take_length]at this
 exact this.symm
theorem trim_last{l:List K}{n:Nat}(hn:n<l.length)(h:co l n≠0):trim (l.take (n+1))=l.take (n+1):=by
 rw[List.take_add_one,List.getElem?_eq_getElem hn,Option.toList_some]
 exact trim_snoc_ne (by rw[←co_lt hn];exact h) _
theorem co_trim:∀(l:List K) (i:Nat),co (trim l) i=co l i
 | [],_=>rfl
 | a::l,i=>by
  have ih:=co_trim l
  simp only[trim]
  split
  ·rename_i h
   rw[h]at ih
   split
   ·rename_i ha
    cases i with
    | zero=>rw[ha];rfl
    | succ i=>exact ih i
   ·cases i with
    | zero=>rfl
    | succ i=>exact ih i
  ·cases i with
   | zero=>rfl
   | succ i=>exact ih i
theorem trim_len_le:∀l:List K,(trim l).length≤l.length
 | []=>Nat.le_refl _
 | a::l=>by
  have:=trim_len_le l
  simp only[trim]
  split
  ·split<;>simp
  ·simpa using this
theorem trim_top:∀l:List K,trim l≠[]→co l ((trim l).length-1)≠0
 | [],h=>absurd rfl h
 | a::l,h=>by
  have ih:=trim_top l
  simp only[trim]at h ⊢
  split at h
  ·rename_i ht
   split at h
   ·exact absurd rfl h
   ·rename_i ha;simp only[if_neg ha];exact ha
  ·rename_i hm
   have hne:trim l≠[]:=fun e=>hm e
   have:=ih hne
   show co (a::l) ((a::trim l).length-1)≠0
   have hpos:0<(trim l).length:=List.length_pos_iff.2 hne
   rw[List.length_cons,show(trim l).length+1-1=((trim l).length-1)+1 by omega]
   exact this
end
end Go.RS
namespace Go.RS
section
variable {K:Type}[Fd K]
def mon(r:K):Ser K:=fun n=>if n=0 then-r else if n=1 then 1 else 0
theorem mon_co(r:K):co [-r,1]=mon r:=by
 funext n
 unfold mon
 match n with
 | 0=>rfl
 | 1=>rfl
 | n+2=>rw[if_neg (by omega),if_neg (by omega)];exact co_ge (by simp)
theorem dg_mon(r:K):dg (mon r) 1:=by
 intro i hi
 unfold mon
 rw[if_neg (by omega),if_neg (by omega)]
theorem cv_mon_0(r:K)(p:Ser K):cv p (mon r) 0=- (p 0*r):=by
 rw[cv_zero]
 show p 0*- r=_
 rw[mul_neg]
theorem cv_mon(r:K)(p:Ser K)(n:Nat):cv p (mon r) (n+1)=p n-p (n+1)*r:=by
 rw[cv_comm]
 unfold cv
 rw[sm_succ',sm_succ',sm_zero (n:=n) (fun i _=>by unfold mon;rw[if_neg (by omega),if_neg (by omega),zero_mul])]
 show-r*p (n+1)+(1*p n+0)=_
 exact(show(((-r)*(p (n+1)))+((1*(p n))+0))=((p n)-((p (n+1))*r)) from ring_eq [r,(p (n+1)),(p n)] (.add (.mul (.neg (.v 0)) (.v 1)) (.add (.mul .one (.v 2)) .zero)) (.add (.v 2) (.neg (.mul (.v 1) (.v 0)))) rfl)
def gp(rs:Nat→K):Nat→Ser K
 | 0=>s1
 | n+1=>cv (gp rs n) (mon (rs n))
theorem dg_gp(rs:Nat→K):∀n,dg (gp rs n) n
 | 0=>dg_s1
 | n+1=>dg_cv (dg_gp rs n) (dg_mon _)
theorem gp_top(rs:Nat→K):∀n,gp rs n n=1
 | 0=>rfl
 | n+1=>by
  show cv (gp rs n) (mon (rs n)) (n+1)=1
  rw[cv_mon,gp_top rs n,dg_gp rs n (n+1) (by omega),zero_mul]
  exact(show(1-0)=1 from ring_eq [((1:K))] (.add .one (.neg .zero)) .one rfl)
def genL(rs:Nat→K)(n:Nat):List K:=tab (n+1) (gp rs n)
theorem genL_len(rs:Nat→K)(n:Nat):(genL rs n).length=n+1:=tab_len _ _
theorem co_genL(rs:Nat→K)(n:Nat):co (genL rs n)=gp rs n:=by
 funext i
 unfold genL
 rw[co_tab]
 split
 ·rfl
 ·exact(dg_gp rs n i (by omega)).symm
theorem gp_congr{rs rs':Nat→K}:∀{n:Nat},(∀i,i<n→rs i=rs' i)→gp rs n=gp rs' n
 | 0,_=>rfl
 | n+1,h=>by rw[gp,gp,gp_congr (fun i hi=>h i (by omega)),h n (by omega)]
theorem pv_mon(r x:K):pv (mon r) 1 x=x-r:=by
 unfold pv
 rw[sm_succ,sm_1]
 show-r*1+1*pw x 1=_
 rw[pw_one]
 exact(show(((-r)*1)+(1*x))=(x-r) from ring_eq [r,x] (.add (.mul (.neg (.v 0)) .one) (.mul .one (.v 1))) (.add (.v 1) (.neg (.v 0))) rfl)
theorem pv_gp_root(rs:Nat→K):∀n i,i<n→pv (gp rs n) n (rs i)=0
 | 0,i,h=>by omega
 | n+1,i,h=>by
  have:=pv_cv (dg_gp rs n) (dg_mon (rs n)) (rs i)
  show pv (cv (gp rs n) (mon (rs n))) (n+1) (rs i)=0
  rw[this,pv_mon]
  by_cases e:i=n
  ·rw[e,sub_self,mul_zero]
  ·rw[pv_gp_root rs n i (by omega),zero_mul]
end
end Go.RS
namespace Go.RS
section
variable {K:Type}[Fd K]
theorem foldl_hval(x v:K):∀m:List K,m.foldl (fun v c=>v*x+c) v=v*pw x m.length+hval m x
 | []=>by
  show v=v*1+0
  rw[mul_one,add_zero]
 | c::m=>by
  show m.foldl (fun v c=>v*x+c) (v*x+c)=v*pw x (m.length+1)+m.foldl (fun v c=>v*x+c) (0*x+c)
  rw[foldl_hval x (v*x+c) m,foldl_hval x (0*x+c) m,pw_succ]
  exact(show((((v*x)+c)*(pw x m.length))+(hval m x))=((v*((pw x m.length)*x))+((((0*x)+c)*(pw x m.length))+(hval m x))) from ring_eq [v,x,c,(pw x m.length),(hval m x)] (.add (.mul (.add (.mul (.v 0) (.v 1)) (.v 2)) (.v 3)) (.v 4)) (.add (.mul (.v 0) (.mul (.v 3) (.v 1))) (.add (.mul (.add (.mul .zero (.v 1)) (.v 2)) (.v 3)) (.v 4))) rfl)
theorem hval_app(l m:List K)(x:K):hval (l++m) x=hval l x*pw x m.length+hval m x:=by
 rw[hval_append,foldl_hval]
def IsCw(rt:Nat→K)(r:Nat)(w:List K):Prop:=∀i,i<r→hval w (rt i)=0
theorem zero_of_roots{p:Ser K}{m:Nat}{xs:List K}(hp:dg p m)(hl:xs.length=m+1)(hn:xs.Nodup)(h0:∀x ∈ xs,x≠0)(hr:∀x ∈ xs,pv p m x=0):∀i,p i=0:=by
 have hlen:(xs.take m).length=m:=by simp;omega
 have hsub:∀x ∈ xs.take m,x ∈ xs:=fun x hx=>List.mem_of_mem_take hx
 have hinvn:((xs.take m).map inv).Nodup:=by
  rw[List.nodup_iff_pairwise_ne,List.pairwise_map]
  refine List.Pairwise.imp_of_mem ?_ (List.nodup_iff_pairwise_ne.1 (hn.sublist (List.take_sublist m xs)))
  intro a b ha hb hne e
  apply hne
  rw[←inv_inv (h0 a (hsub a ha)),e,inv_inv (h0 b (hsub b hb))]
 obtain⟨q,hq,hpq⟩:=roots_div ((xs.take m).map inv) (xs.take m) p 0 (by simp) hinvn (fun i h h'=>by
  rw[List.getElem_map]
  exact inv_mul (h0 _ (hsub _ (List.getElem_mem h')))) (by rw[List.length_map,hlen];exact hp) (fun x hx=>by rw[List.length_map,hlen];exact hr x (hsub x hx))
 have hm:m<xs.length:=by omega
 have hnot:inv xs[m] ∉ (xs.take m).map inv:=by
  intro hm2
  obtain⟨x,hx,e⟩:=List.mem_map.1 hm2
  have e2:x=xs[m]:=by rw[←inv_inv (h0 x (hsub x hx)),e,inv_inv (h0 _ (List.getElem_mem hm))]
  obtain⟨i,hi,e3⟩:=List.getElem_of_mem hx
  rw[List.getElem_take,e2]at e3
  have:=(List.getElem_inj hn).1 e3
  simp at hi
  omega
 have hne:=pv_lins_ne hnot (inv_mul (h0 _ (List.getElem_mem hm)))
 rw[List.length_map,hlen]at hne
 have hdl:=dg_lins ((xs.take m).map inv)
 rw[List.length_map,hlen]at hdl
 have hv:=pv_cv hdl hq xs[m]
 rw[←hpq,Nat.add_zero,hr _ (List.getElem_mem hm)]at hv
 have hq0:q 0=0:=by
  rcases mul_eq_zero hv.symm with h|h
  ·exact absurd h hne
  ·unfold pv at h
   rw[sm_1,pw_zero,mul_one]at h
   exact h
 intro i
 rw[hpq]
 refine sm_zero fun j hj=>?_
 by_cases e:i-j=0
 ·rw[e,hq0,mul_zero]
 ·rw[hq (i-j) (by omega),mul_zero]
theorem hval_rev(w:List K)(x:K):hval w x=sm w.length (fun j=>co w (w.length-1-j)*pw x j):=by
 rw[hval_sm,sm_rev]
 refine sm_congr fun i hi=>?_
 rw[show w.length-1-(w.length-1-i)=i by omega]
theorem cw_uniq{rt:Nat→K}{r:Nat}{w w':List K}(hr:1≤r)(hd:∀i j,i<r→j<r→rt i=rt j→i=j)(h0:∀i,i<r→rt i≠0)(hw:IsCw rt r w)(hw':IsCw rt r w')(hl:w.length=w'.length)(hlr:r≤w.length)(hp:∀i,i<w.length-r→co w i=co w' i):w=w':=by
 have hz:=zero_of_roots (p:=fun j=>if j<r then co w (w.length-1-j)-co w' (w.length-1-j) else 0) (m:=r-1) (xs:=(List.range r).map rt)
  (fun i hi=>if_neg (by omega)) (by simp;omega) (by
   rw[List.nodup_iff_pairwise_ne,List.pairwise_map]
   refine List.Pairwise.imp_of_mem ?_ (List.nodup_iff_pairwise_ne.1 List.nodup_range)
   intro a b ha hb hne e
   exact hne (hd a b (by simpa using ha) (by simpa using hb) e)) (by
   intro x hx
   obtain⟨i,hi,rfl⟩:=List.mem_map.1 hx
   exact h0 i (by simpa using hi)) (by
   intro x hx
   obtain⟨i,hi,rfl⟩:=List.mem_map.1 hx
   have hi:i<r:=by simpa using hi
   have e1:=hw i hi
   have e2:=hw' i hi
   rw[hval_rev]at e1 e2
   have e3:sm w.length (fun j=>(if j<r then co w (w.length-1-j)-co w' (w.length-1-j) else 0)*pw (rt i) j)=0:=by
    have:sm w.length (fun j=>(if j<r then co w (w.length-1-j)-co w' (w.length-1-j) else 0)*pw (rt i) j)=sm w.length (fun j=>co w (w.length-1-j)*pw (rt i) j+- (co w' (w'.length-1-j)*pw (rt i) j)):=by
     refine sm_congr fun j hj=>?_
     by_cases hjr:j<r
     ·rw[if_pos hjr,hl]
      exact(show(((co w (w'.length-1-j))-(co w' (w'.length-1-j)))*(pw (rt i) j))=(((co w (w'.length-1-j))*(pw (rt i) j))+(-((co w' (w'.length-1-j))*(pw (rt i) j)))) from ring_eq [(co w (w'.length-1-j)),(co w' (w'.length-1-j)),(pw (rt i) j)] (.mul (.add (.v 0) (.neg (.v 1))) (.v 2)) (.add (.mul (.v 0) (.v 2)) (.neg (.mul (.v 1) (.v 2)))) rfl)
     ·rw[if_neg hjr,hp (w.length-1-j) (by omega),hl]
      exact(show(0*(pw (rt i) j))=(((co w' (w'.length-1-j))*(pw (rt i) j))+(-((co w' (w'.length-1-j))*(pw (rt i) j)))) from ring_eq [(co w' (w'.length-1-j)),(pw (rt i) j)] (.mul .zero (.v 1)) (.add (.mul (.v 0) (.v 1)) (.neg (.mul (.v 0) (.v 1)))) rfl)
    rw[this,sm_add,e1,←sm_neg]
    rw[←hl]at e2
    have e4:sm w.length (fun j=>co w' (w'.length-1-j)*pw (rt i) j)=0:=by rw[←hl];exact e2
    rw[e4]
    exact(show(0+(-0))=0 from ring_eq [((1:K))] (.add .zero (.neg .zero)) .zero rfl)
   unfold pv
   rw[show r-1+1=r by omega]
   rw[sm_ext (m:=r) hlr (fun j h1 h2=>by rw[if_neg (by omega),zero_mul])]at e3
   exact e3)
 refine list_co hl fun i hi=>?_
 by_cases h:i<w.length-r
 ·exact hp i h
 ·have:=hz (w.length-1-i)
  rw[if_pos (by omega),show w.length-1-(w.length-1-i)=i by omega]at this
  exact sub_eq_zero this
theorem lfsr_step{rt:Nat→K}{r i:Nat}(hi:i<r){rest rest':List K}(hl:rest.length=r)(hl':rest'.length=r){d q:K}(hq:q=d+co rest 0)(h:∀k,k<r→co rest' k=co rest (k+1)-q*gp rt r (r-1-k)) :
  hval rest' (rt i)=hval rest (rt i)*rt i+d*pw (rt i) r:=by
 have hr:0<r:=by omega
 generalize hx:rt i=x
 have hg:pv (gp rt r) r x=0:=by rw[←hx];exact pv_gp_root rt r i hi
 unfold pv at hg
 rw[sm_succ,gp_top,one_mul]at hg
 have e1:hval rest' x=sm r (fun k=>co rest (k+1)*pw x (r-1-k))+- (q*sm r (fun j=>gp rt r j*pw x j)):=by
  rw[hval_sm,hl',sm_rev (fun j=>gp rt r j*pw x j),sm_mul,sm_neg,←sm_add]
  refine sm_congr fun k hk=>?_
  rw[h k hk]
  exact(show(((co rest (k+1))-(q*(gp rt r (r-1-k))))*(pw x (r-1-k)))=(((co rest (k+1))*(pw x (r-1-k)))+(-(q*((gp rt r (r-1-k))*(pw x (r-1-k)))))) from ring_eq [(co rest (k+1)),q,(gp rt r (r-1-k)),(pw x (r-1-k))] (.mul (.add (.v 0) (.neg (.mul (.v 1) (.v 2)))) (.v 3)) (.add (.mul (.v 0) (.v 3)) (.neg (.mul (.v 1) (.mul (.v 2) (.v 3))))) rfl)
 have e2:sm r (fun k=>co rest (k+1)*pw x (r-1-k))=hval rest x*x-co rest 0*pw x r:=by
  rw[hval_sm,hl]
  obtain⟨n,rfl⟩:∃n,r=n+1:=⟨r-1,by omega⟩
  rw[sm_succ,co_ge (l:=rest) (by omega),zero_mul,add_zero,sm_succ',Nat.sub_zero,Nat.add_sub_cancel,add_mul,sm_mul_r,pw_succ]
  have e3:sm n (fun k=>co rest (k+1)*pw x (n-k))=sm n (fun i=>co rest (i+1)*pw x (n-(i+1))*x):=by
   refine sm_congr fun k hk=>?_
   rw[show n-k=(n-(k+1))+1 by omega,pw_succ,mul_assoc]
  rw[e3]
  exact(show(sm n (fun i=>co rest (i+1)*pw x (n-(i+1))*x))=(((((co rest 0)*(pw x n))*x)+(sm n (fun i=>co rest (i+1)*pw x (n-(i+1))*x)))-((co rest 0)*((pw x n)*x))) from ring_eq [(sm n (fun i=>co rest (i+1)*pw x (n-(i+1))*x)),(co rest 0),(pw x n),x] (.v 0) (.add (.add (.mul (.mul (.v 1) (.v 2)) (.v 3)) (.v 0)) (.neg (.mul (.v 1) (.mul (.v 2) (.v 3))))) rfl)
 have e4:sm r (fun j=>gp rt r j*pw x j)=- pw x r:=by
  symm
  apply neg_eq_of
  rw[add_comm];exact hg
 rw[e1,e2,e4,hq]
 exact(show((((hval rest x)*x)-((co rest 0)*(pw x r)))+(-((d+(co rest 0))*(-(pw x r)))))=(((hval rest x)*x)+(d*(pw x r))) from ring_eq [(hval rest x),x,(co rest 0),(pw x r),d] (.add (.add (.mul (.v 0) (.v 1)) (.neg (.mul (.v 2) (.v 3)))) (.neg (.mul (.add (.v 4) (.v 2)) (.neg (.v 3))))) (.add (.mul (.v 0) (.v 1)) (.mul (.v 4) (.v 3))) rfl)
theorem lfsr_end{rt:Nat→K}{r:Nat}{data rest:List K}(hl:rest.length=r)(h:∀i,i<r→hval rest (rt i)=pw (rt i) r*hval data (rt i)):IsCw rt r (data++tab r (fun k=>- co rest k)):=by
 intro i hi
 rw[hval_app,tab_len]
 have e:hval (tab r (fun k=>- co rest k)) (rt i)=- hval rest (rt i):=by
  rw[hval_sm,hval_sm,tab_len,hl,sm_neg]
  refine sm_congr fun k hk=>?_
  rw[co_tab,if_pos hk,neg_mul]
 rw[e,h i hi]
 exact(show(((hval data (rt i))*(pw (rt i) r))+(-((pw (rt i) r)*(hval data (rt i)))))=0 from ring_eq [(hval data (rt i)),(pw (rt i) r)] (.add (.mul (.v 0) (.v 1)) (.neg (.mul (.v 1) (.v 0)))) .zero rfl)
theorem div_end{rt:Nat→K}{r n:Nat}{data w S R:List K}{Q:Ser K}{N:Nat}(hn:n=data.length+r)(hS:∀k,co S k=if r≤k∧k<n then co data (n-1-k) else 0)(he:∀k,co S k=cv Q (gp rt r) k+co R k)(hR:∀k,r≤k→co R k=0)(hQ:∀k,N≤k→Q k=0)(hwl:w.length=n)(hw:∀i,i<data.length→co w i=co data i)(hw2:∀k,k<r→co w (n-1-k)=- co R k):IsCw rt r w:=by
 intro i hi
 rw[hval_rev,hwl]
 have e1:sm n (fun j=>co w (n-1-j)*pw (rt i) j)=sm n (fun j=>cv Q (gp rt r) j*pw (rt i) j):=by
  refine sm_congr fun j hj=>?_
  congr 1
  have e:=he j
  rw[hS j]at e
  by_cases hjr:j<r
  ·rw[if_neg (by omega)]at e
   rw[hw2 j hjr]
   have:cv Q (gp rt r) j+co R j=0:=e.symm
   rw[add_comm]at this
   exact neg_eq_of this
  ·rw[if_pos (by omega),hR j (by omega),add_zero]at e
   rw[hw (n-1-j) (by omega),e]
 have hdQ:dg Q N:=fun k hk=>hQ k (by omega)
 have hz:∀k,n≤k→cv Q (gp rt r) k=0:=by
  intro k hk
  have e:=he k
  rw[hS k,if_neg (by omega),hR k (by omega),add_zero]at e
  exact e.symm
 have e2:sm n (fun j=>cv Q (gp rt r) j*pw (rt i) j)=pv (cv Q (gp rt r)) (N+r) (rt i):=by
  unfold pv
  rcases Nat.le_total n (N+r+1)with h|h
  ·exact(sm_ext h fun k h1 h2=>by rw[hz k h1,zero_mul]).symm
  ·exact sm_ext h fun k h1 h2=>by rw[dg_cv hdQ (dg_gp rt r) k (by omega),zero_mul]
 rw[e1,e2,pv_cv hdQ (dg_gp rt r),pv_gp_root rt r i hi,mul_zero]
end
end Go.RS
namespace Go.RS
section
variable {K:Type}[Fd K]
theorem lins_snoc(X:K):∀l:List K,lins (l++[X])=cv (lin X) (lins l)
 | []=>rfl
 | Y::l=>by
  show cv (lin Y) (lins (l++[X]))=cv (lin X) (cv (lin Y) (lins l))
  rw[lins_snoc X l,←cv_assoc,cv_comm (lin Y),cv_assoc]
theorem lins_erase:∀(l:List K) (j:Nat) (h:j<l.length),lins l=cv (lin l[j]) (lins (l.eraseIdx j))
 | [],j,h=>by simp at h
 | X::l,0,_=>rfl
 | X::l,j+1,h=>by
  have hj:j<l.length:=by simpa using h
  show cv (lin X) (lins l)=cv (lin l[j]) (cv (lin X) (lins (l.eraseIdx j)))
  rw[lins_erase l j hj,←cv_assoc,←cv_assoc,cv_comm (lin X)]
theorem cv_geo_far{p:Ser K}{s:Nat}(hp:dg p s){X:K}(hX:X≠0)(k:Nat):cv p (geo X) (s+k)=pw X (s+k)*pv p s (inv X):=by
 unfold cv pv
 rw[sm_ext (m:=s+1) (by omega) (fun i h1 h2=>by rw[hp i (by omega),zero_mul]),sm_mul]
 refine sm_congr fun i hi=>?_
 obtain⟨j,hj⟩:∃j,s+k=j+i:=⟨s+k-i,by omega⟩
 show p i*pw X (s+k-i)=_
 rw[hj,show j+i-i=j by omega,pw_add]
 have:=pw_inv_cancel (mul_inv hX) i
 have e:=(show(((pw X j)*(pw X i))*((p i)*(pw (inv X) i)))=(((p i)*(pw X j))*((pw X i)*(pw (inv X) i))) from ring_eq [(p i),(pw X j),(pw X i),(pw (inv X) i)] (.mul (.mul (.v 1) (.v 2)) (.mul (.v 0) (.v 3))) (.mul (.mul (.v 0) (.v 1)) (.mul (.v 2) (.v 3))) rfl)
 rw[e,this,mul_one]
def thin(p:Ser K)(s:Nat)(l:List (K×K)):List (K×K):=l.map fun a=>(a.1*pw a.2 s*pv p s (inv a.2),a.2)
theorem cv_gs_far{p:Ser K}{s:Nat}(hp:dg p s):∀(l:List (K×K)),(∀a ∈ l,a.2≠0)→∀k,cv p (gs l) (s+k)=gs (thin p s l) k
 | [],_,k=>by
  show cv p (fun _=>0) (s+k)=0
  rw[cv_null]
 | (y,X)::l,h,k=>by
  have hX:=h (y,X) (by simp)
  show cv p (fun n=>y*geo X n+gs l n) (s+k)=y*pw X s*pv p s (inv X)*geo X k+gs (thin p s l) k
  rw[cv_add_r,cv_smul_r,cv_geo_far hp hX,cv_gs_far hp l (fun a ha=>h a (by simp[ha])) k,pw_add]
  congr 1
  show y*(pw X s*pw X k*pv p s (inv X))=y*pw X s*pv p s (inv X)*pw X k
  exact(show(y*(((pw X s)*(pw X k))*(pv p s (inv X))))=(((y*(pw X s))*(pv p s (inv X)))*(pw X k)) from ring_eq [y,(pw X s),(pw X k),(pv p s (inv X))] (.mul (.v 0) (.mul (.mul (.v 1) (.v 2)) (.v 3))) (.mul (.mul (.mul (.v 0) (.v 1)) (.v 3)) (.v 2)) rfl)
theorem gs_app(l m:List (K×K))(k:Nat):gs (l++m) k=gs l k+gs m k:=by
 induction l with
 | nil=>exact(zero_add _).symm
 | cons a l ih=>
  obtain⟨y,X⟩:=a
  show y*geo X k+gs (l++m) k=y*geo X k+gs l k+gs m k
  rw[ih,add_assoc]
theorem thin_xs(p:Ser K)(s:Nat)(l:List (K×K)):xs (thin p s l)=xs l:=by simp[xs,thin]
theorem thin_len(p:Ser K)(s:Nat)(l:List (K×K)):(thin p s l).length=l.length:=by simp[thin]
theorem locates{S:Ser K}{r:Nat}(lE lF:List (K×K))(hS:∀k,k<r→S k=gs (lE++lF) k)(hX:∀a ∈ lE++lF,a.2≠0)(hy:∀a ∈ lF,a.1≠0)(hn:(xs (lE++lF)).Nodup)(hfew:2*lF.length+lE.length≤r) :
  (Reg.run (fun k=>cv S (lins (xs lE)) (lE.length+k)) (r-lE.length)).C=lins (xs lF)∧(Reg.run (fun k=>cv S (lins (xs lE)) (lE.length+k)) (r-lE.length)).L=lF.length:=by
 have hdE:=dg_lins (xs lE)
 rw[xs_len]at hdE
 have hX1:∀a ∈ lF,a.2≠0:=fun a ha=>hX a (by simp[ha])
 have hxs:xs (lE++lF)=xs lE++xs lF:=by simp[xs]
 rw[hxs]at hn
 have hseq:∀k,k<r-lE.length→cv S (lins (xs lE)) (lE.length+k)=gs (thin (lins (xs lE)) lE.length lF) k:=by
  intro k hk
  have e1:cv S (lins (xs lE)) (lE.length+k)=cv (fun k=>gs lE k+gs lF k) (lins (xs lE)) (lE.length+k):=
   cv_congr (fun i hi=>by rw[hS i (by omega),gs_app]) (fun _ _=>rfl)
  rw[e1,cv_add_l,cv_comm,cv_gs,dg_om lE _ (by omega),zero_add,cv_comm,cv_gs_far hdE lF hX1]
 have hrun:=rinv_run (fun k=>cv S (lins (xs lE)) (lE.length+k)) (r-lE.length)
 have hu:=bm_unique hrun.gen hrun.min (thin (lins (xs lE)) lE.length lF) (by
  intro a ha
  obtain⟨c,hc,rfl⟩:=List.mem_map.1 ha
  have hcX:=hX1 c hc
  refine mul_ne_zero (mul_ne_zero (hy c hc) (pw_ne_zero hcX _)) ?_
  have hnot:c.2 ∉ xs lE:=by
   intro hm
   have:=(List.nodup_append.1 hn).2.2 c.2 hm c.2 (List.mem_map.2 ⟨c,hc,rfl⟩)
   exact this rfl
  have:=pv_lins_ne hnot (mul_inv hcX)
  rwa [xs_len]at this) (by
  intro a ha
  obtain⟨c,hc,rfl⟩:=List.mem_map.1 ha
  exact hX1 c hc) (by rw[thin_xs];exact(List.nodup_append.1 hn).2.1) hseq (by rw[thin_len];omega)
 rw[thin_xs,thin_len]at hu
 exact hu
def der(p:Ser K):Ser K:=fun n=>nsm 1 (n+1)*p (n+1)
theorem der_lin(X:K)(p:Ser K)(n:Nat):der (cv (lin X) p) n=cv (lin X) (der p) n-X*p n:=by
 unfold der
 rw[cv_lin]
 cases n with
 | zero=>
  rw[cv_lin0]
  show nsm 1 1*(p 1-X*p 0)=nsm 1 1*p 1-X*p 0
  have e:nsm (1:K) 1=1:=zero_add 1
  rw[e]
  exact(show(1*((p 1)-(X*(p 0))))=((1*(p 1))-(X*(p 0))) from ring_eq [X,(p 1),(p 0)] (.mul .one (.add (.v 1) (.neg (.mul (.v 0) (.v 2))))) (.add (.mul .one (.v 1)) (.neg (.mul (.v 0) (.v 2)))) rfl)
 | succ n=>
  rw[cv_lin]
  have e:nsm (1:K) (n+1+1)=nsm 1 (n+1)+1:=rfl
  rw[e]
  exact(show(((nsm (1:K) (n+1))+1)*((p (n+1+1))-(X*(p (n+1)))))=(((((nsm (1:K) (n+1))+1)*(p (n+1+1)))-(X*((nsm (1:K) (n+1))*(p (n+1)))))-(X*(p (n+1)))) from ring_eq [X,(nsm (1:K) (n+1)),(p (n+1+1)),(p (n+1))] (.mul (.add (.v 1) .one) (.add (.v 2) (.neg (.mul (.v 0) (.v 3))))) (.add (.add (.mul (.add (.v 1) .one) (.v 2)) (.neg (.mul (.v 0) (.mul (.v 1) (.v 3))))) (.neg (.mul (.v 0) (.v 3)))) rfl)
theorem dg_der{p:Ser K}{d:Nat}(h:dg p (d+1)):dg (der p) d:=fun i hi=>by
 show nsm 1 (i+1)*p (i+1)=0
 rw[h (i+1) (by omega),mul_zero]
theorem der_lins{l:List K}{j:Nat}(hj:j<l.length){x:K}(e:l[j]*x=1):pv (der (lins l)) (l.length-1) x=- (l[j]*pv (lins (l.eraseIdx j)) (l.length-1) x):=by
 have h1:=lins_erase l j hj
 have hl:=List.length_eraseIdx_of_lt hj
 have hd:=dg_lins (l.eraseIdx j)
 rw[hl]at hd
 have hdd:dg (der (lins (l.eraseIdx j))) (l.length-1-1):=by
  by_cases h0:l.length-1=0
  ·intro i hi
   show nsm 1 (i+1)*lins (l.eraseIdx j) (i+1)=0
   rw[hd (i+1) (by omega),mul_zero]
  ·exact dg_der (by rw[show l.length-1-1+1=l.length-1 by omega];exact hd)
 have e2:der (lins l)=fun n=>cv (lin l[j]) (der (lins (l.eraseIdx j))) n+- (l[j]*lins (l.eraseIdx j) n):=by
  rw[h1]
  funext n
  rw[der_lin];rfl
 rw[e2,pv_add]
 have e3:pv (cv (lin l[j]) (der (lins (l.eraseIdx j)))) (l.length-1) x=0:=by
  by_cases h0:l.length-1=0
  ·have hz:der (lins (l.eraseIdx j))=fun _=>0:=by
    funext n
    show nsm 1 (n+1)*lins (l.eraseIdx j) (n+1)=0
    rw[hd (n+1) (by omega),mul_zero]
   rw[hz,cv_null]
   exact sm_zero fun i _=>zero_mul _
  ·have:=pv_cv (dg_lin l[j]) hdd x
   rw[pv_lin,e,sub_self,zero_mul,show 1+(l.length-1-1)=l.length-1 by omega]at this
   exact this
 rw[e3,zero_add]
 have e4:(fun i=>- (l[j]*lins (l.eraseIdx j) i))=fun i=>(- l[j])*lins (l.eraseIdx j) i:=by
  funext i;rw[neg_mul]
 rw[e4,pv_smul,neg_mul]
theorem forney{S:Ser K}{r:Nat}(l:List (K×K))(hS:∀k,k<r→S k=gs l k)(hl:l.length≤r){j:Nat}(hj:j<l.length){x:K}(e:(l[j]).2*x=1) :
  hor (tab r (cv S (lins (xs l)))) x=(l[j]).1*pv (lins ((xs l).eraseIdx j)) (l.length-1) x:=by
 have e1:tab r (cv S (lins (xs l)))=tab r (om l):=tab_congr fun k hk=>by
  rw[←cv_gs,cv_comm]
  exact cv_congr (fun _ _=>rfl) (fun i hi=>hS i (by omega))
 have hdo:dg (co (tab r (om l))) l.length:=by
  intro i hi
  rw[co_tab]
  split
  ·exact dg_om l i (by omega)
  ·rfl
 rw[e1,hor_pv hdo,←pv_om l j hj x e]
 unfold pv
 refine sm_congr fun i hi=>?_
 rw[co_tab]
 split
 ·rfl
 ·rw[dg_om l i (by omega)]
end
end Go.RS
namespace Go.RS
section
variable {K:Type}[Fd K]
def sel(φ:Nat→Bool)(n:Nat):List Nat:=(List.range n).filter φ
theorem sel_succ(φ:Nat→Bool)(n:Nat):sel φ (n+1)=sel φ n++(if φ n=true then[n] else[]):=by
 unfold sel
 rw[List.range_succ,List.filter_append]
 congr 1
 cases h:φ n<;>simp[h]
theorem mem_sel{φ:Nat→Bool}{n i:Nat}:i ∈ sel φ n↔i<n∧φ i=true:=by simp[sel]
theorem sel_nodup(φ:Nat→Bool)(n:Nat):(sel φ n).Nodup:=List.nodup_range.sublist List.filter_sublist
theorem sel_congr{φ ψ:Nat→Bool}{n:Nat}(h:∀i,i<n→φ i=ψ i):sel φ n=sel ψ n:=by
 unfold sel
 apply List.filter_congr
 intro i hi
 exact h i (by simpa using hi)
def pr(X:Nat→K)(b:Nat)(ε:Nat→K)(l:List Nat):List (K×K):=l.map fun i=>(ε i*pw (X i) b,X i)
theorem pr_xs(X:Nat→K)(b:Nat)(ε:Nat→K)(l:List Nat):xs (pr X b ε l)=l.map X:=by simp[xs,pr]
theorem pr_len(X:Nat→K)(b:Nat)(ε:Nat→K)(l:List Nat):(pr X b ε l).length=l.length:=by simp[pr]
theorem gs_one(X:Nat→K)(b:Nat)(ε:Nat→K)(i k:Nat):gs (pr X b ε [i]) k=ε i*pw (X i) (b+k):=by
 show ε i*pw (X i) b*pw (X i) k+0=_
 rw[add_zero,mul_assoc,←pw_add]
theorem gs_pr_snoc(X:Nat→K)(b:Nat)(ε:Nat→K)(l:List Nat)(i k:Nat):gs (pr X b ε (l++[i])) k=gs (pr X b ε l) k+ε i*pw (X i) (b+k):=by
 have:pr X b ε (l++[i])=pr X b ε l++pr X b ε [i]:=by simp[pr]
 rw[this,gs_app,gs_one]
theorem sum_sel{X:Nat→K}{b:Nat}{ε:Nat→K}{φ:Nat→Bool}:∀{n:Nat},(∀i,i<n→φ i=false→ε i=0)→∀k,sm n (fun i=>ε i*pw (X i) (b+k))=gs (pr X b ε (sel φ n)) k
 | 0,_,_=>rfl
 | n+1,h,k=>by
  rw[sm_succ,sum_sel (fun i hi=>h i (by omega)),sel_succ]
  cases hφ:φ n with
  | true=>rw[if_pos rfl,gs_pr_snoc]
  | false=>rw[if_neg (by simp),List.append_nil,h n (by omega) hφ,zero_mul,add_zero]
theorem sum_two{X:Nat→K}{b:Nat}{ε:Nat→K}{φ ψ:Nat→Bool}:∀{n:Nat},(∀i,i<n→φ i=false→ψ i=false→ε i=0)→(∀i,i<n→φ i=true→ψ i=false)→∀k,sm n (fun i=>ε i*pw (X i) (b+k))=gs (pr X b ε (sel φ n)++pr X b ε (sel ψ n)) k
 | 0,_,_,_=>rfl
 | n+1,h,h',k=>by
  rw[gs_app,sm_succ,sum_two (fun i hi=>h i (by omega)) (fun i hi=>h' i (by omega)),gs_app,sel_succ,sel_succ]
  cases hφ:φ n with
  | true=>
   rw[if_pos rfl,gs_pr_snoc,h' n (by omega) hφ,if_neg (by simp),List.append_nil]
   exact(show(((gs (pr X b ε (sel φ n)) k)+(gs (pr X b ε (sel ψ n)) k))+(ε n*pw (X n) (b+k)))=(((gs (pr X b ε (sel φ n)) k)+(ε n*pw (X n) (b+k)))+(gs (pr X b ε (sel ψ n)) k)) from ring_eq [(gs (pr X b ε (sel φ n)) k),(gs (pr X b ε (sel ψ n)) k),(ε n*pw (X n) (b+k))] (.add (.add (.v 0) (.v 1)) (.v 2)) (.add (.add (.v 0) (.v 2)) (.v 1)) rfl)
  | false=>
   rw[if_neg (by simp),List.append_nil]
   cases hψ:ψ n with
   | true=>rw[if_pos rfl,gs_pr_snoc,add_assoc]
   | false=>rw[if_neg (by simp),List.append_nil,h n (by omega) hφ hψ,zero_mul,add_zero]
def gam(X:Nat→K)(er:Nat→Bool):Nat→Ser K
 | 0=>s1
 | i+1=>if er i=true then cv (lin (X i)) (gam X er i) else gam X er i
theorem gam_eq(X:Nat→K)(er:Nat→Bool):∀n,gam X er n=lins ((sel er n).map X)
 | 0=>rfl
 | n+1=>by
  rw[gam,sel_succ,gam_eq X er n]
  cases h:er n with
  | true=>rw[if_pos rfl,if_pos rfl,List.map_append,List.map_singleton,lins_snoc]
  | false=>rw[if_neg (by simp),if_neg (by simp),List.append_nil]
def isR(X:Nat→K)(er:Nat→Bool)(lam:List K)(i:Nat):Bool:=!er i&&decide (hor lam (inv (X i))=0)
def bothP(X:Nat→K)(er:Nat→Bool)(lam:List K)(i:Nat):Bool:=er i || isR X er lam i
def errV(X:Nat→K)(b r:Nat)(S:Ser K)(P:List Nat)(i:Nat):K:=
 hor (tab r (cv S (lins (P.map X)))) (inv (X i))*inv (pw (X i) b*pv (lins ((P.filter fun k=>decide (k≠i)).map X)) (P.length-1) (inv (X i)))
structure Places (X:Nat→K)(n:Nat):Prop where
 ne:∀i,i<n→X i≠0
 inj:∀i j,i<n→j<n→X i=X j→i=j
theorem Places.nodup{X:Nat→K}{n:Nat}(h:Places X n){l:List Nat}(hl:l.Nodup)(hb:∀i ∈ l,i<n):(l.map X).Nodup:=by
 rw[List.nodup_iff_pairwise_ne,List.pairwise_map]
 refine List.Pairwise.imp_of_mem ?_ (List.nodup_iff_pairwise_ne.1 hl)
 intro a b ha hb' hne e
 exact hne (h.inj a b (hb a ha) (hb b hb') e)
theorem lam_lins{X:Nat→K}{n:Nat}(hX:Places X n){er:Nat→Bool}{lam:List K}(h1:co lam 0=1)(he:(sel (isR X er lam) n).length=lam.length-1):co lam=lins ((sel (isR X er lam) n).map X):=by
 have hb:∀i ∈ sel (isR X er lam) n,i<n:=fun i hi=>(mem_sel.1 hi).1
 have hn:=hX.nodup (sel_nodup (isR X er lam) n) hb
 have hd:=dg_co lam
 obtain⟨q,hq,hC⟩:=roots_div ((sel (isR X er lam) n).map X) ((sel (isR X er lam) n).map fun i=>inv (X i)) (co lam) 0 (by simp) hn (fun i h h'=>by
   rw[List.getElem_map,List.getElem_map]
   exact mul_inv (hX.ne _ (hb _ (List.getElem_mem _)))) (by rw[List.length_map,Nat.add_zero,he];exact hd) (fun x hx=>by
   obtain⟨i,hi,rfl⟩:=List.mem_map.1 hx
   rw[List.length_map,Nat.add_zero,he,←hor_pv hd]
   have:=(mem_sel.1 hi).2
   simp only[isR,Bool.and_eq_true,decide_eq_true_eq]at this
   exact this.2)
 have hq0:q 0=1:=by rwa [hC,cv_zero,lins_zero,one_mul]at h1
 have hqs:q=s1:=by
  funext i
  unfold s1
  split
  ·rename_i h;rw[h];exact hq0
  ·exact hq i (by omega)
 rw[hC,hqs,cv_comm,cv_one_l]
def tailS(S Γ:Ser K)(s:Nat):Ser K:=fun k=>cv S Γ (s+k)
theorem trim_len_eq{l:List K}{t:Nat}(h:co l t≠0)(hz:∀i,t<i→co l i=0):(trim l).length=t+1:=by
 have hne:trim l≠[]:=by
  intro e
  have:=co_trim l t
  rw[e]at this
  exact h this.symm
 have htop:=trim_top l hne
 have hpos:0<(trim l).length:=List.length_pos_iff.2 hne
 have h1:(trim l).length-1≤t:=by
  apply Decidable.byContradiction
  intro hc
  exact htop (hz _ (by omega))
 have h2:t<(trim l).length:=by
  apply Decidable.byContradiction
  intro hc
  apply h
  rw[←co_trim,co_ge (by omega)]
 omega
theorem erase_map(X:Nat→K):∀(P:List Nat) (j:Nat),(P.map X).eraseIdx j=(P.eraseIdx j).map X
 | [],_=>rfl
 | _::_,0=>rfl
 | a::P,j+1=>by
  show X a::(P.map X).eraseIdx j=X a::(P.eraseIdx j).map X
  rw[erase_map X P j]
theorem erase_filter{P:List Nat}(hn:P.Nodup){j:Nat}(hj:j<P.length)(X:Nat→K):(P.map X).eraseIdx j=(P.filter fun k=>decide (k≠P[j])).map X:=by
 rw[erase_map]
 congr 1
 induction P generalizing j with
 | nil=>simp at hj
 | cons a P ih=>
  have hna:=(List.nodup_cons.1 hn).1
  cases j with
  | zero=>
   show P=List.filter (fun k=>decide (k≠a)) (a::P)
   rw[List.filter_cons_of_neg (by simp)]
   symm
   rw[List.filter_eq_self]
   intro k hk
   simp
   intro e
   exact hna (e▸hk)
  | succ j=>
   have hj':j<P.length:=by simpa using hj
   show a::P.eraseIdx j=List.filter (fun k=>decide (k≠P[j])) (a::P)
   rw[List.filter_cons_of_pos (by simp;intro e;exact hna (e▸List.getElem_mem _)),ih (List.nodup_cons.1 hn).2 hj']
theorem decodes{X:Nat→K}{n r b:Nat}(hX:Places X n){er:Nat→Bool}{S:Ser K}{lam:List K}{N:Nat}(hlam:lam=trim (tab N (Reg.run (tailS S (lins ((sel er n).map X)) (sel er n).length) (r-(sel er n).length)).C))(hN:∀i,N≤i→(Reg.run (tailS S (lins ((sel er n).map X)) (sel er n).length) (r-(sel er n).length)).C i=0)
  (ε:Nat→K) (hS:∀k,k<r→S k=sm n (fun i=>ε i*pw (X i) (b+k))) (hfew:2*(sel (fun i=>!er i&&decide (ε i≠0)) n).length+(sel er n).length≤r) :
  (sel (isR X er lam) n).length=lam.length-1∧2*(lam.length-1)+(sel er n).length≤r∧(Reg.run (tailS S (lins ((sel er n).map X)) (sel er n).length) (r-(sel er n).length)).L=lam.length-1∧(∀i,i<n→bothP X er lam i=false→ε i=0)∧(∀i,i<n→bothP X er lam i=true→errV X b r S (sel (bothP X er lam) n) i=ε i):=by
 generalize hφ:(fun i=>!er i&&decide (ε i≠0))=φ at *
 have hgs:∀k,k<r→S k=gs (pr X b ε (sel er n)++pr X b ε (sel φ n)) k:=by
  intro k hk
  rw[hS k hk]
  refine sum_two (fun i hi h1 h2=>?_) (fun i hi h=>?_) k
  ·rw[←hφ]at h2
   simp only[h1,Bool.not_false,Bool.true_and,decide_eq_false_iff_not]at h2
   exact Classical.not_not.1 h2
  ·rw[←hφ];simp[h]
 have hlocs:=locates (pr X b ε (sel er n)) (pr X b ε (sel φ n)) hgs (by
   intro a ha
   rcases List.mem_append.1 ha with ha|ha
   ·obtain⟨i,hi,rfl⟩:=List.mem_map.1 ha
    exact hX.ne i (mem_sel.1 hi).1
   ·obtain⟨i,hi,rfl⟩:=List.mem_map.1 ha
    exact hX.ne i (mem_sel.1 hi).1) (by
   intro a ha
   obtain⟨i,hi,rfl⟩:=List.mem_map.1 ha
   have h2:=mem_sel.1 hi
   rw[←hφ]at h2
   simp only[Bool.and_eq_true,decide_eq_true_eq]at h2
   exact mul_ne_zero h2.2.2 (pw_ne_zero (hX.ne i h2.1) _)) (by
   have e:xs (pr X b ε (sel er n)++pr X b ε (sel φ n))=(sel er n++sel φ n).map X:=by rw[List.map_append,←pr_xs X b ε,←pr_xs X b ε];exact List.map_append
   rw[e]
   refine hX.nodup (List.nodup_append.2 ⟨sel_nodup _ _,sel_nodup _ _,?_⟩) (fun i hi=>?_)
   ·intro i hi j hj e2
    have h2:=(mem_sel.1 hi).2
    have h3:=(mem_sel.1 hj).2
    rw[←hφ,←e2]at h3
    simp[h2]at h3
   ·rcases List.mem_append.1 hi with h|h
    ·exact(mem_sel.1 h).1
    ·exact(mem_sel.1 h).1) (by rw[pr_len,pr_len];omega)
 rw[pr_len,pr_len,pr_xs,pr_xs]at hlocs
 change (Reg.run (tailS S (lins ((sel er n).map X)) (sel er n).length) (r-(sel er n).length)).C=_∧(Reg.run (tailS S (lins ((sel er n).map X)) (sel er n).length) (r-(sel er n).length)).L=_ at hlocs
 have hcoT:co (tab N (Reg.run (tailS S (lins ((sel er n).map X)) (sel er n).length) (r-(sel er n).length)).C)=lins ((sel φ n).map X):=by
  rw[←hlocs.1]
  funext i
  rw[co_tab]
  split
  ·rfl
  ·exact(hN i (by omega)).symm
 have hne:∀x ∈ (sel φ n).map X,x≠0:=by
  intro x hx
  obtain⟨i,hi,rfl⟩:=List.mem_map.1 hx
  exact hX.ne i (mem_sel.1 hi).1
 have htop:=lins_top _ hne
 have hdeg:=dg_lins ((sel φ n).map X)
 rw[List.length_map]at htop hdeg
 have hlen:lam.length=(sel φ n).length+1:=by
  rw[hlam]
  exact trim_len_eq (by rw[hcoT];exact htop) (by rw[hcoT];exact hdeg)
 have hco:co lam=lins ((sel φ n).map X):=by
  funext i
  rw[hlam,co_trim,hcoT]
 have hdl:dg (co lam) (sel φ n).length:=by rw[hco];exact hdeg
 have hisR:∀i,i<n→isR X er lam i=φ i:=by
  intro i hi
  have hφi:φ i=(!er i&&decide (ε i≠0)):=by rw[←hφ]
  rw[hφi]
  unfold isR
  cases her:er i with
  | true=>rfl
  | false=>
   simp only[Bool.not_false,Bool.true_and]
   have hv:hor lam (inv (X i))=pv (lins ((sel φ n).map X)) ((sel φ n).map X).length (inv (X i)):=by rw[hor_pv hdl,hco,List.length_map]
   by_cases hε:ε i≠0
   ·rw[decide_eq_true hε,hv,pv_lins_mem (X:=X i) (List.mem_map.2 ⟨i,mem_sel.2 ⟨hi,by rw[←hφ];simp[her,hε]⟩,rfl⟩) (mul_inv (hX.ne i hi))]
    simp
   ·rw[decide_eq_false hε,hv]
    refine decide_eq_false (pv_lins_ne (X:=X i) (fun hm=>?_) (mul_inv (hX.ne i hi)))
    obtain⟨j,hj,e⟩:=List.mem_map.1 hm
    have hj2:=mem_sel.1 hj
    have:=hX.inj j i hj2.1 hi e
    subst this
    rw[←hφ]at hj2
    simp only[Bool.and_eq_true,decide_eq_true_eq]at hj2
    exact hε hj2.2.2
 have hsel:sel (isR X er lam) n=sel φ n:=sel_congr hisR
 have hboth:∀i,i<n→bothP X er lam i=(er i || φ i):=fun i hi=>by unfold bothP;rw[hisR i hi]
 refine⟨by rw[hsel];omega,by omega,by rw[hlocs.2];omega,fun i hi h=>?_,fun i hi h=>?_⟩
 ·rw[hboth i hi,←hφ]at h
  simp only[Bool.or_eq_false_iff,Bool.and_eq_false_iff,Bool.not_eq_false',decide_eq_false_iff_not]at h
  rcases h with ⟨h1,h2|h2⟩
  ·rw[h1]at h2;cases h2
  ·exact Classical.not_not.1 h2
 ·have hPn:=sel_nodup (bothP X er lam) n
  have hPl:(sel (bothP X er lam) n).length≤r:=by
   have key:∀m,m≤n→(sel (bothP X er lam) m).length≤(sel er m).length+(sel φ m).length:=by
    intro m
    induction m with
    | zero=>intro _;simp[sel]
    | succ m ih=>
     intro hm
     have:=ih (by omega)
     rw[sel_succ,sel_succ,sel_succ,List.length_append,List.length_append,List.length_append,hboth m (by omega)]
     cases er m<;>cases φ m<;>simp<;>omega
   have:=key n (Nat.le_refl _)
   omega
  obtain⟨j,hj,hji⟩:=List.getElem_of_mem (mem_sel.2 ⟨hi,h⟩)
  have hj':j<(pr X b ε (sel (bothP X er lam) n)).length:=by rw[pr_len];exact hj
  have hpj:(pr X b ε (sel (bothP X er lam) n))[j]=(ε i*pw (X i) b,X i):=by simp[pr,hji]
  have hSP:∀k,k<r→S k=gs (pr X b ε (sel (bothP X er lam) n)) k:=by
   intro k hk
   rw[hS k hk]
   refine sum_sel (fun i hi h=>?_) k
   rw[hboth i hi,←hφ]at h
   simp only[Bool.or_eq_false_iff,Bool.and_eq_false_iff,Bool.not_eq_false',decide_eq_false_iff_not]at h
   rcases h with ⟨h1,h2|h2⟩
   ·rw[h1]at h2;cases h2
   ·exact Classical.not_not.1 h2
  have hXi:=hX.ne i hi
  have hf:=forney (pr X b ε (sel (bothP X er lam) n)) hSP (by rw[pr_len];exact hPl) hj' (x:=inv (X i)) (by rw[hpj];exact mul_inv hXi)
  rw[pr_xs,pr_len,hpj,erase_filter hPn hj]at hf
  unfold errV
  rw[hf]
  simp only[hji]
  have hden:pv (lins (((sel (bothP X er lam) n).filter fun k=>decide (k≠i)).map X)) ((sel (bothP X er lam) n).length-1) (inv (X i))≠0:=by
   have hlen2:(((sel (bothP X er lam) n).filter fun k=>decide (k≠i)).map X).length=(sel (bothP X er lam) n).length-1:=by
    have:=congrArg List.length (erase_filter hPn hj X)
    rw[List.length_eraseIdx_of_lt (by simpa using hj),List.length_map]at this
    rw[←hji]
    exact this.symm
   rw[←hlen2]
   refine pv_lins_ne (X:=X i) (fun hm=>?_) (mul_inv hXi)
   obtain⟨k,hk,e⟩:=List.mem_map.1 hm
   have hk2:=List.mem_filter.1 hk
   have:=hX.inj k i (mem_sel.1 hk2.1).1 hi e
   simp[this]at hk2
  generalize pv (lins (((sel (bothP X er lam) n).filter fun k=>decide (k≠i)).map X)) ((sel (bothP X er lam) n).length-1) (inv (X i))=D at *
  have hXb:=pw_ne_zero hXi b
  rw[mul_assoc (ε i),mul_assoc (ε i),mul_inv (mul_ne_zero hXb hden),mul_one]
end
end Go.RS
namespace Go.RS
section
variable {K:Type}[Fd K]
def plc(g:K)(n i:Nat):K:=pw g (n-1-i)
theorem places_plc{g:K}{n m:Nat}(hg:g≠0)(h:Ord g m)(hn:n≤m):Places (plc g n) n where
 ne:=fun i _=>pw_ne_zero hg _
 inj:=fun i j hi hj e=>by
  have:=pw_inj hg h (n-1-i) (n-1-j) (by omega) (by omega) e
  omega
theorem hval_plc(g:K)(w:List K)(m:Nat):hval w (pw g m)=sm w.length (fun i=>co w i*pw (plc g w.length i) m):=by
 rw[hval_sm]
 refine sm_congr fun i _=>?_
 unfold plc
 rw[←pw_mul,←pw_mul,Nat.mul_comm]
def syS(g:K)(r b:Nat)(w:List K):Ser K:=co (tab r (fun i=>hval w (pw g (b+i))))
theorem syS_at{g:K}{r b k:Nat}(w:List K)(hk:k<r):syS g r b w k=hval w (pw g (b+k)):=by
 unfold syS;rw[co_tab,if_pos hk]
def sC(er:Nat→Bool)(n:Nat):Nat:=(sel er n).length
def tailL(X:Nat→K)(er:Nat→Bool)(n r:Nat)(S:Ser K):List K:=(tab r (cv S (gam X er n))).drop (sC er n)
theorem co_drop(l:List K)(s k:Nat):co (l.drop s) k=co l (s+k):=by
 unfold co
 rw[List.getD_eq_getElem?_getD,List.getD_eq_getElem?_getD,List.getElem?_drop]
theorem tailL_len(X:Nat→K)(er:Nat→Bool)(n r:Nat)(S:Ser K):(tailL X er n r S).length=r-sC er n:=by
 unfold tailL;rw[List.length_drop,tab_len]
theorem tail_run(X:Nat→K)(er:Nat→Bool)(n r:Nat)(S:Ser K):Reg.run (co (tailL X er n r S)) (tailL X er n r S).length=Reg.run (tailS S (lins ((sel er n).map X)) (sel er n).length) (r-(sel er n).length):=by
 rw[tailL_len]
 refine run_congr fun k hk=>?_
 unfold tailL tailS
 rw[co_drop,co_tab,if_pos (by unfold sC at hk ⊢;omega),gam_eq];rfl
def locG(s:List K):List K:=trim (tab (bml (co s) s.length).1 (Reg.run (co s) s.length).C)
def lamL(X:Nat→K)(er:Nat→Bool)(n r:Nat)(S:Ser K):List K:=locG (tailL X er n r S)
theorem co_lam(X:Nat→K)(er:Nat→Bool)(n r:Nat)(S:Ser K):co (lamL X er n r S)=(Reg.run (tailS S (lins ((sel er n).map X)) (sel er n).length) (r-(sel er n).length)).C:=by
 funext i
 unfold lamL locG
 rw[co_trim,co_tab,←tail_run]
 split
 ·rfl
 ·exact((bml_ok _ _).1 i (by omega)).symm
theorem lam_one(X:Nat→K)(er:Nat→Bool)(n r:Nat)(S:Ser K):co (lamL X er n r S) 0=1:=by
 rw[co_lam];exact(rinv_run _ _).gen.one
def fixW(g:K)(r b:Nat)(w:List K)(er:Nat→Bool):List K:=
 let X:=plc g w.length
 let S:=syS g r b w
 let lam:=lamL X er w.length r S
 tab w.length (fun i=>if bothP X er lam i=true then co w i-errV X b r S (sel (bothP X er lam) w.length) i else co w i)
theorem fixW_len(g:K)(r b:Nat)(w:List K)(er:Nat→Bool):(fixW g r b w er).length=w.length:=tab_len _ _
def isCw(g:K)(r b:Nat)(w:List K):Prop:=∀k,k<r→hval w (pw g (b+k))=0
structure DecOK (g:K)(r b:Nat)(w:List K)(er:Nat→Bool):Prop where
 few:sC er w.length≤r
 cap:2*((lamL (plc g w.length) er w.length r (syS g r b w)).length-1)+sC er w.length≤r
 num:(sel (isR (plc g w.length) er (lamL (plc g w.length) er w.length r (syS g r b w))) w.length).length=(lamL (plc g w.length) er w.length r (syS g r b w)).length-1
 cw:isCw g r b (fixW g r b w er)
theorem hval_diff(g:K){w c:List K}(hl:c.length=w.length)(m:Nat):sm w.length (fun i=>(co w i-co c i)*pw (plc g w.length i) m)=hval w (pw g m)-hval c (pw g m):=by
 rw[hval_plc,hval_plc,hl,sub_def,sm_neg,←sm_add]
 refine sm_congr fun i _=>?_
 exact(show(((co w i)-(co c i))*(pw (plc g w.length i) m))=(((co w i)*(pw (plc g w.length i) m))+(-((co c i)*(pw (plc g w.length i) m)))) from ring_eq [(co w i),(co c i),(pw (plc g w.length i) m)] (.mul (.add (.v 0) (.neg (.v 1))) (.v 2)) (.add (.mul (.v 0) (.v 2)) (.neg (.mul (.v 1) (.v 2)))) rfl)
theorem near_found{g:K}{r b m:Nat}{w c:List K}{er:Nat→Bool}(hg:g≠0)(ho:Ord g m)(hn:w.length≤m)(hl:c.length=w.length)(hc:isCw g r b c)
  (hfew:2*(sel (fun i=>!er i&&decide (co w i≠co c i)) w.length).length+sC er w.length≤r):DecOK g r b w er∧fixW g r b w er=c:=by
 have hS:∀k,k<r→syS g r b w k=sm w.length (fun i=>(co w i-co c i)*pw (plc g w.length i) (b+k)):=by
  intro k hk
  rw[hval_diff g hl,hc k hk,syS_at w hk]
  exact(show(hval w (pw g (b+k)))=((hval w (pw g (b+k)))-0) from ring_eq [(hval w (pw g (b+k)))] (.v 0) (.add (.v 0) (.neg .zero)) rfl)
 have hsub:∀i,(co w i-co c i≠0)↔co w i≠co c i:=fun i=>⟨fun h e=>h (by rw[e,sub_self]),fun h e=>h (sub_eq_zero e)⟩
 have hd:=decodes (b:=b) (places_plc hg ho hn) (er:=er) (S:=syS g r b w) (lam:=lamL (plc g w.length) er w.length r (syS g r b w)) (N:=(bml (co (tailL (plc g w.length) er w.length r (syS g r b w))) (tailL (plc g w.length) er w.length r (syS g r b w)).length).1) (by unfold lamL locG;rw[tail_run]) (fun i hi=>by rw[←tail_run];exact(bml_ok _ _).1 i hi)
  (fun i=>co w i-co c i) hS (by
   have e:sel (fun i=>!er i&&decide (co w i-co c i≠0)) w.length=sel (fun i=>!er i&&decide (co w i≠co c i)) w.length:=sel_congr fun i _=>by
    congr 1
    exact decide_eq_decide.2 (hsub i)
   rw[e];exact hfew)
 have hfix:fixW g r b w er=c:=by
  refine(list_co (by rw[hl,fixW_len]) fun i hi=>?_)
  rw[fixW_len]at hi
  unfold fixW
  rw[co_tab,if_pos hi]
  split
  ·rename_i hb
   rw[hd.2.2.2.2 i hi hb]
   exact(show((co w i)-((co w i)-(co c i)))=(co c i) from ring_eq [(co w i),(co c i)] (.add (.v 0) (.neg (.add (.v 0) (.neg (.v 1))))) (.v 1) rfl)
  ·rename_i hb
   have:=hd.2.2.2.1 i hi (by simpa using hb)
   exact sub_eq_zero this
 refine⟨⟨by omega,hd.2.1,hd.1,by rw[hfix];exact hc⟩,hfix⟩
theorem lins_two{X:Nat→K}{φ ψ:Nat→Bool}:∀{n:Nat},(∀i,i<n→ψ i=true→φ i=false)→cv (lins ((sel φ n).map X)) (lins ((sel ψ n).map X))=lins ((sel (fun i=>φ i || ψ i) n).map X)
 | 0,_=>cv_one_l _
 | n+1,h=>by
  have ih:=lins_two (X:=X) (φ:=φ) (ψ:=ψ) (n:=n) (fun i hi=>h i (by omega))
  rw[sel_succ,sel_succ,sel_succ,List.map_append,List.map_append,List.map_append]
  cases hψ:ψ n with
  | true=>
   rw[h n (by omega) hψ]
   simp only[Bool.false_or,if_true,Bool.false_eq_true,if_false,List.map_nil,List.append_nil,List.map_cons]
   rw[lins_snoc,lins_snoc,←ih,←cv_assoc,←cv_assoc,cv_comm _ (lin (X n))]
  | false=>
   cases hφ:φ n with
   | true=>
    simp only[Bool.or_false,if_true,Bool.false_eq_true,if_false,List.map_nil,List.append_nil,List.map_cons]
    rw[lins_snoc,lins_snoc,←ih,cv_assoc]
   | false=>
    simp only[Bool.or_false,Bool.false_eq_true,if_false,List.map_nil,List.append_nil]
    exact ih
theorem both_lins{X:Nat→K}{n r:Nat}(hX:Places X n){er:Nat→Bool}{S:Ser K}(hnum:(sel (isR X er (lamL X er n r S)) n).length=(lamL X er n r S).length-1):cv (gam X er n) (co (lamL X er n r S))=lins ((sel (bothP X er (lamL X er n r S)) n).map X):=by
 rw[gam_eq,lam_lins hX (lam_one _ _ _ _ _) hnum]
 refine lins_two fun i _ h=>?_
 unfold isR at h
 simp only[Bool.and_eq_true,Bool.not_eq_true']at h
 exact h.1
theorem both_len{X:Nat→K}{n:Nat}{er:Nat→Bool}{lam:List K}:(sel (bothP X er lam) n).length=(sel er n).length+(sel (isR X er lam) n).length:=by
 induction n with
 | zero=>rfl
 | succ n ih=>
  rw[sel_succ,sel_succ,sel_succ,List.length_append,List.length_append,List.length_append,ih]
  unfold bothP isR
  cases er n<;>cases decide (hor lam (inv (X n))=0)<;>simp<;>omega
theorem slope_at{X:Nat→K}{n:Nat}(hX:Places X n){P:List Nat}(hP:P.Nodup)(hb:∀i ∈ P,i<n){i:Nat}(hi:i ∈ P):pv (der (lins (P.map X))) (P.length-1) (inv (X i))=- (X i*pv (lins ((P.filter fun k=>decide (k≠i)).map X)) (P.length-1) (inv (X i)))∧pv (lins ((P.filter fun k=>decide (k≠i)).map X)) (P.length-1) (inv (X i))≠0:=by
 obtain⟨j,hj,hji⟩:=List.getElem_of_mem hi
 have hXi:=hX.ne i (hb i hi)
 have hlt:j<(P.map X).length:=by simpa using hj
 have hd:=der_lins (l:=P.map X) (j:=j) hlt (x:=inv (X i)) (by rw[List.getElem_map,hji];exact mul_inv hXi)
 rw[List.getElem_map,erase_filter hP hj,hji,List.length_map]at hd
 refine⟨hd,?_⟩
 have hlen2:((P.filter fun k=>decide (k≠i)).map X).length=P.length-1:=by
  have:=congrArg List.length (erase_filter hP hj X)
  rw[List.length_eraseIdx_of_lt (by simpa using hj),List.length_map]at this
  rw[←hji]
  exact this.symm
 rw[←hlen2]
 refine pv_lins_ne (X:=X i) (fun hm=>?_) (mul_inv hXi)
 obtain⟨k,hk,e⟩:=List.mem_map.1 hm
 have hk2:=List.mem_filter.1 hk
 have:=hX.inj k i (hb k hk2.1) (hb i hi) e
 simp[this]at hk2
theorem corr{g:K}{m n b r i:Nat}(hg:g≠0)(ho:Ord g m)(hn:n≤m){S:Ser K}{P:List Nat}(hP:P.Nodup)(hb:∀i ∈ P,i<n)(hi:i ∈ P) :
  pw g ((n-1-i)*(b+(m-1)))*pv (der (lins (P.map (plc g n)))) (P.length-1) (inv (plc g n i))≠0 ∧
  hor (tab r (cv S (lins (P.map (plc g n))))) (inv (plc g n i))*inv (pw g ((n-1-i)*(b+(m-1)))*pv (der (lins (P.map (plc g n)))) (P.length-1) (inv (plc g n i)))=- errV (plc g n) b r S P i:=by
 have hX:=places_plc hg ho hn
 obtain⟨h1,h2⟩:=slope_at hX hP hb hi
 have hXi:=hX.ne i (hb i hi)
 have hpw:pw (plc g n i) (m-1)*plc g n i=1:=by
  rw[←pw_succ,Nat.sub_add_cancel ho.1]
  unfold plc
  rw[←pw_mul,Nat.mul_comm,pw_mul,ho.2.1,one_pw]
 have hfac:pw g ((n-1-i)*(b+(m-1)))=pw (plc g n i) b*pw (plc g n i) (m-1):=by
  rw[pw_mul,pw_add];rfl
 have hdv:pw g ((n-1-i)*(b+(m-1)))*pv (der (lins (P.map (plc g n)))) (P.length-1) (inv (plc g n i))=- (pw (plc g n i) b*pv (lins ((P.filter fun k=>decide (k≠i)).map (plc g n))) (P.length-1) (inv (plc g n i))):=by
  rw[h1,hfac]
  generalize pv (lins ((P.filter fun k=>decide (k≠i)).map (plc g n))) (P.length-1) (inv (plc g n i))=D
  have e:pw (plc g n i) b*pw (plc g n i) (m-1)*-(plc g n i*D)=-(pw (plc g n i) b*D*(pw (plc g n i) (m-1)*plc g n i)):=(show(((pw (plc g n i) b)*(pw (plc g n i) (m-1)))*(-((plc g n i)*(D))))=(-(((pw (plc g n i) b)*(D))*((pw (plc g n i) (m-1))*(plc g n i)))) from ring_eq [(pw (plc g n i) b),(pw (plc g n i) (m-1)),(plc g n i),(D)] (.mul (.mul (.v 0) (.v 1)) (.neg (.mul (.v 2) (.v 3)))) (.neg (.mul (.mul (.v 0) (.v 3)) (.mul (.v 1) (.v 2)))) rfl)
  rw[e,hpw,mul_one]
 rw[hdv]
 unfold errV
 have hne:=mul_ne_zero (pw_ne_zero hXi b) h2
 generalize pw (plc g n i) b*pv (lins ((P.filter fun k=>decide (k≠i)).map (plc g n))) (P.length-1) (inv (plc g n i))=E at *
 refine⟨neg_ne_zero hne,?_⟩
 have hi2:inv (-E)=- inv E:=inv_eq_of (by rw[neg_mul,mul_neg,neg_neg,mul_inv hne])
 rw[hi2,mul_neg]
theorem hor_tab_pv{M:Nat}(F:Ser K)(x:K)(h:1≤M):hor (tab M F) x=pv F (M-1) x:=by
 rw[hor_sm,tab_len]
 unfold pv
 rw[Nat.sub_add_cancel h]
 refine sm_congr fun i hi=>?_
 rw[co_tab,if_pos hi]
end
end Go.RS
namespace Go.RS
def f7:FD:=⟨7,0⟩
theorem pr7:Pr 7:=⟨by decide,fun d h1 h2=>by
 have:d=2∨d=3∨d=4∨d=5∨d=6:=by omega
 rcases this with rfl|rfl|rfl|rfl|rfl<;>decide⟩
instance ok7:OkC f7:=⟨.inl ⟨rfl,by decide,by decide,pr7⟩⟩
def e7(n:Nat)(h:n<7:=by decide):El f7:=⟨n,h⟩
end Go.RS
