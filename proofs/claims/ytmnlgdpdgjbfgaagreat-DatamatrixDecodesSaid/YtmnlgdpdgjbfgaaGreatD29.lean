/- Lemmas. -/
import Derived.Test.YtmnlgdpdgjbfgaaGreatD10
import Derived.Test.YtmnlgdpdgjbfgaaGreatD11
import Derived.Test.YtmnlgdpdgjbfgaaGreatD20
import Derived.Test.YtmnlgdpdgjbfgaaGreatD26
set_option linter.all false
namespace Go.RS
def clB:Nat->Nat->Nat->Nat
 | 0,_,_=>0
 | k+1,a,b=>clB k a b ^^^ (if b.testBit k then a <<< k else 0)
theorem Df(b k:Nat):b%2^(k+1)=b%2^k ^^^ (if b.testBit k then 2^k else 0):=by
 refine Nat.eq_of_testBit_eq fun i=>?_;rw[Nat.testBit_mod_two_pow,Nat.testBit_xor,Nat.testBit_mod_two_pow];by_cases h1:i<k
 ·have:(if b.testBit k=true then 2^k else 0).testBit i=false:=by
   split
   ·rw[Nat.testBit_two_pow];simp;omega
   ·exact Nat.zero_testBit i
  rw[this];simp[h1,Nat.lt_succ_of_lt h1]
 ·by_cases h2:i=k
  ·subst h2
   cases hb:b.testBit i<;>simp
  ·have:(if b.testBit k=true then 2^k else 0).testBit i=false:=by
    split
    ·rw[Nat.testBit_two_pow];simp;omega
    ·exact Nat.zero_testBit i
   rw[this];have:¬ i<k+1:=byO;simp[h1,this]
theorem CE(a b:Nat):∀k,cl a (b%2^k)=clB k a b
 | 0=>by rw[Nat.pow_zero,Nat.mod_one,fX];rfl
 | k+1=>by
  have h:cl a (if b.testBit k=true then 2^k else 0)=if b.testBit k=true then a <<< k else 0:=by
   split
   ·exact fu a k
   ·exact fX a
  rw[Df,jO,CE a b k,h];rfl
theorem CD{a b n:Nat}(ha:a<2^n):∀k,clB k a b<2^(n+k)
 | 0=>Nat.two_pow_pos _
 | k+1=>by
  show clB k a b ^^^ (if b.testBit k then a <<< k else 0)<_;refine Nat.xor_lt_two_pow (bc₀ (CD ha k) (Nat.pow_le_pow_right byO byO)) ?_;split
  ·rw[Nat.shiftLeft_eq,show n+(k+1)=(n+1)+k by omega,Nat.pow_add]
   exact Nat.mul_lt_mul_of_pos_right (bc₀ ha (Nat.pow_le_pow_right byO byO)) (Nat.two_pow_pos _)
  ·exact Nat.two_pow_pos _
def rdG(q d:Nat):Nat->Nat->Nat
 | 0,p=>p
 | k+1,p=>rdG q d k (if p.testBit (d+k) then p ^^^ (q <<< k) else p)
theorem EI{q d:Nat}(hq:q≠0):∀(k p:Nat),rm (rdG q d k p) q=rm p q
 | 0,_=>rfl
 | k+1,p=>by
  show rm (rdG q d k _) q=_;rw[EI hq k];split
  ·rw[<-fu,uc hq]
  ·rfl
theorem Hf{p r n:Nat}(hp:p<2^(n+1))(hr:r<2^(n+1))(h1:p.testBit n=true)(h2:r.testBit n=true):p ^^^ r<2^n:=by
 refine Nat.lt_pow_two_of_testBit _ fun i hi=>?_;rw[Nat.testBit_xor];by_cases e:i=n
 ·rw[e,h1,h2];rfl
 ·rw[Nat.testBit_lt_two_pow (bc₀ hp (Nat.pow_le_pow_right byO byO)),Nat.testBit_lt_two_pow (bc₀ hr (Nat.pow_le_pow_right byO byO))];rfl
theorem D7{p n:Nat}(hp:p<2^(n+1))(h1:¬ p.testBit n=true):p<2^n:=by
 refine Nat.lt_pow_two_of_testBit _ fun i hi=>?_;by_cases e:i=n
 ·rw[e];simpa using h1
 ·exact Nat.testBit_lt_two_pow (bc₀ hp (Nat.pow_le_pow_right byO byO))
theorem EH{q d:Nat}(hq:q≠0)(hd:q.log2=d):∀(k p:Nat),p<2^(d+k)->rdG q d k p<2^d
 | 0,p,h=>h
 | k+1,p,h=>by
  show rdG q d k _<_;refine EH hq hd k _ ?_;split
  ·rename_i hb
   refine Hf h ?_ hb ?_
   ·have h1:=cX q
    rw[hd]at h1;rw[Nat.shiftLeft_eq,show d+k+1=(d+1)+k by omega,Nat.pow_add];exact Nat.mul_lt_mul_of_pos_right h1 (Nat.two_pow_pos _)
   ·have h1:=jH hq
    rw[hd]at h1;rw[Nat.testBit_shiftLeft];simp[h1]
  ·rename_i hb
   exact D7 h hb
theorem EP{q d k p:Nat}(hq:q≠0)(hd:q.log2=d)(hp:p<2^(d+k)):rm p q=rdG q d k p:=by
 rw[<-EI (d:=d) hq k p];exact iF hq (by rw[hd];exact EH hq hd k p hp)
def Dg(q a b:Nat):Nat:=rdG q 8 8 (clB 8 a b)
theorem G6{q a b:Nat}(hq:q≠0)(hd:q.log2=8)(ha:a<256)(hb:b<256):eN ⟨256,q⟩ a b=Dg q a b:=by
 unfold eN;rw[if_neg hq];have h1:cl a b=clB 8 a b:=by
  have:=CE a b 8;rwa [Nat.mod_eq_of_lt hb]at this
 show rm (cl a b) q=_;rw[h1,EP hq hd (k:=8) (CD (n:=8) ha 8)];rfl
def OH(q:Nat):Bool:=(List.range 32).all fun t=>decide (t<2) || decide (rdG t t.log2 9 q≠0)
theorem Kn{q:Nat}(hd:q.log2=8)(hq:q<512)(h:OH q=true):Irr q:=by
 intro t ht hl;rintro⟨m,hm⟩;have ht0:t≠0:=byO;have hlt:t<32:=by
  have:=cX t;have h5:2^(t.log2+1)<=2^5:=Nat.pow_le_pow_right byO byO;omega
 have h2:=List.all_eq_true.1 h t (List.mem_range.2 hlt);simp only[ar₀,af₀]at h2;have h3:rdG t t.log2 9 q≠0:=h2.resolve_left byO;apply h3;rw[<-EP ht0 rfl (k:=9) (bc₀ hq (Nat.pow_le_pow_right (n:=2) byO (by omega:9<=t.log2+9)))];exact tC ht0 (m:=m) (Nat.two_pow_pos _) (by rw[hm,Nat.xor_zero])
structure BF (q:Nat):Prop where
 lg:q.log2=8
 lt:q<512
 ne:q≠0
 two:2<=q
 irr:OH q=true
def fB(q:Nat):FD:=⟨256,q⟩
theorem BF.ok{q:Nat}(h:BF q):(fB q).Ok:=.inr ⟨h.ne,h.two,by show q.log2<=12;have:=h.lg;omega,by show 256=2^q.log2;rw[h.lg],Kn h.lg h.lt h.irr⟩
def eB(q n:Nat):El (fB q):=⟨n%256,Nat.mod_lt _ (by decide)⟩
section
variable {q:Nat}[h:OkC (fB q)]
theorem Dh(hb:BF q)(x y:El (fB q)):(x*y).val=Dg q x.val y.val:=by
 rw[val_mul];exact G6 hb.ne hb.lg x.lt y.lt
def pwB(q x:Nat):Nat->Nat
 | 0=>1
 | n+1=>Dg q (pwB q x n) x
theorem u9(hb:BF q)(x:El (fB q)):∀n,(pw x n).val=pwB q x.val n
 | 0=>rfl
 | n+1=>by rw[eD,Dh hb,u9 hb x n];rfl
def tY(q:Nat):Nat->List Nat->Bool
 | _,[]=>true
 | v,w::l=>Nat.beq (Dg q v 2) w&&tY q w l
theorem vE(q:Nat):∀(l:List Nat) (v n:Nat),pwB q 2 n=v->tY q v l=true->∀i,i<l.length->pwB q 2 (n+1+i)=l.getD i 0
 | [],_,_,_,_,i,hi=>by simp at hi
 | w::l,v,n,hv,h,i,hi=>by
  unfold tY at h;simp only[ac₀]at h;have h1:pwB q 2 (n+1)=w:=by
   show Dg q (pwB q 2 n) 2=w;rw[hv];exact Nat.eq_of_beq_eq_true h.1
  match i with
  | 0=>exact h1
  | i+1=>
   have:=vE q l w (n+1) h1 h.2 i (by simpa using hi);rw[show n+1+(i+1)=n+1+1+i by omega,this];rfl
def Ke(q:Nat)(l:List Nat):Bool:=tY q 1 l&&(decide (l.length=255)&&(decide (l.getD 254 0=1)&&(l.take 254).all fun x=>!Nat.beq x 1))
theorem Gj(hb:BF q){l:List Nat}(hg:Ke q l=true):Ord (eB q 2) 255:=by
 unfold Ke at hg;simp only[ac₀,af₀]at hg;obtain⟨h1,h2,h3,h4⟩:=hg;have hc:=vE q l 1 0 rfl h1;refine⟨by decide,El.ext ?_,fun m h5 h6 e=>?_⟩
 ·rw[u9 hb]
  have:=hc 254 byO;rw[h3]at this;exact this
 ·have h7:=hc (m-1) byO
  rw[show 0+1+(m-1)=m by omega]at h7;have h8:pwB q 2 m=1:=by
   have:=u9 hb (eB q 2) m;rw[e]at this;exact this.symm
  have hm:l.getD (m-1) 0 ∈ l.take 254:=by
   rw[au₀,bb₀ (by omega:m-1<l.length)];show l[m-1] ∈ _;rw[List.mem_take_iff_getElem];exact⟨m-1,byO,rfl⟩
  have h9:=List.all_eq_true.1 h4 _ hm;rw[<-h7,h8]at h9;exact absurd h9 (by decide)
theorem wJ:¬ Ord (eB q 1) 255:=fun h=>by
 have:eB q 1=1:=El.ext rfl;rw[this]at h;exact h.2.2 1 (by decide) (by decide) (by rw[oJ])
end
theorem bf285:BF 285:=⟨by decide +kernel,by decide,by decide,by decide,by decide +kernel⟩
theorem bf301:BF 301:=⟨by decide +kernel,by decide,by decide,by decide,by decide +kernel⟩
def MH:List Nat:=[2,4,8,16,32,64,128,45,90,180,69,138,57,114,228,229,231,227,235,251,219,155,27,54,108,216,157,23,46,92,184,93,186,89,178,73,146,9,18,36,72,144,13,26,52,104,208,141,55,110,220,149,7,14,28,56,112,224,237,247,195,171,123,246,193,175,115,230,225,239,243,203,187,91,182,65,130,41,82,164,101,202,185,95,190,81,162,105,210,137,63,126,252,213,135,35,70,140,53,106,212,133,39,78,156,21,42,84,168,125,250,217,159,19,38,76,152,29,58,116,232,253,215,131,43,86,172,117,234,249,223,147,11,22,44,88,176,77,154,25,50,100,200,189,87,174,113,226,233,255,211,139,59,118,236,245,199,163,107,214,129,47,94,188,85,170,121,242,201,191,83,166,97,194,169,127,254,209,143,51,102,204,181,71,142,49,98,196,165,103,206,177,79,158,17,34,68,136,61,122,244,197,167,99,198,161,111,222,145,15,30,60,120,240,205,183,67,134,33,66,132,37,74,148,5,10,20,40,80,160,109,218,153,31,62,124,248,221,151,3,6,12,24,48,96,192,173,119,238,241,207,179,75,150,1]
theorem Kd:Ke 301 MH=true:=by decide +kernel
instance ok285:OkC (fB 285):=⟨bf285.ok⟩
instance ok301:OkC (fB 301):=⟨bf301.ok⟩
end Go.RS
namespace Go.Proofs.YtmnlgdpdgjbfgaaGreat
open Go.Abs Go.RS
variable{i:Nat}
set_option maxRecDepth 20000
section
variable {lo:Nat}{H:Heap}{ch sz po r b:Int}
open XSa
theorem RT(hlo:lo<=H.length)(hb:po<=9223372036854775807):Ev cp lo 57 [fv ch sz po,.int .i64 r,.int .i64 b] H (fun v H'=>Ext H H'/\((¬ ∃f,OkF ch sz po f)->v=.tuple #[cdI 0 0 0 0 0,.int .i64 1])/\((∃f,OkF ch sz po f)->¬ mq ch sz po r b->v=.tuple #[cdI 0 0 0 0 0,.int .i64 3])/\(mq ch sz po r b->v=.tuple #[cdI ch sz po r b,.int .i64 0])):=by
 unfold fv;refine stG rfl rfl ?_;unfold NJ;simp only[kB,aB];refine aC ?_;refine aQ ?_;refine aA (valid (ch:=ch) (sz:=sz) (po:=po) hb) ?_;rintro v H1 ⟨hx1,t1,rfl,ht1⟩;have g0:H1.get H.length=some _:=hx1.get aW;have g1:H1.get (H.length+1)=some _:=hx1.get aW;have hx1:=hx1.of_app;have hl1:=Heap.get_lt g1;cases t1 with
 | false=>
  have hno:¬ ∃f,OkF ch sz po f:=fun h=>by have:=ht1.2 h;cases this
  (try simp only[aB]);refine aS ?_ ?_<;>intro h
  case refine_2=>cases h
  clear h;refine aC ?_;refine aT ?_;exact⟨hx1.set byO,fun _=>rfl,fun h=>absurd h hno,fun h=>absurd h.1 hno⟩
 | true=>
  have hf:=ht1.1 rfl;have hsz:=uQ hf;(try simp only[aB]);refine aS ?_ ?_<;>intro h
  ·cases h
  clear h;(try simp only[aB]);refine aQ ?_;refine aA (fits (ch:=ch) (sz:=sz) (po:=po) (r:=r) (b:=b) byO byO) ?_;rintro v H2 ⟨hx2,rfl⟩;have g0:=(hx2).get g0;have g1:=(hx2).get g1;have hx2:=hx1.trans hx2;have hl2:=Heap.get_lt g1;generalize ht2:(((decide (1<=r)&&decide (r<=sz-2))&&decide (0<=b))&&decide (b<=sz-2))=t2;have ht2':t2=true↔1<=r/\r<=sz-2/\0<=b/\b<=sz-2:=by
   rw[<-ht2];simp only[ac₀,af₀];omega
  clear ht2;cases t2 with
  | false=>
   have hno:¬ mq ch sz po r b:=fun h=>by have:=ht2'.2 h.2;cases this
   (try simp only[aB]);refine aS ?_ ?_<;>intro h
   case refine_2=>cases h
   clear h;refine aC ?_;refine aT ?_;exact⟨hx2.set byO,fun h=>absurd hf h,fun _ _=>rfl,fun h=>absurd h hno⟩
  | true=>
   have hok:mq ch sz po r b:=⟨hf,ht2'.1 rfl⟩;(try simp only[aB]);refine aS ?_ ?_<;>intro h
   ·cases h
   clear h;refine aC ?_;refine aT ?_;exact⟨hx2.set byO,fun h=>absurd hf h,fun _ h=>absurd hok h,fun _=>rfl⟩
end
def szT:List (List Nat):=[[10,10,8,8,3,5,1],[12,12,10,10,5,7,1],[14,14,12,12,8,10,1],[16,16,14,14,12,12,1],[18,18,16,16,18,14,1],[20,20,18,18,22,18,1],[22,22,20,20,30,20,1],[24,24,22,22,36,24,1],[26,26,24,24,44,28,1],[32,32,14,14,62,36,1],[36,36,16,16,86,42,1],[40,40,18,18,114,48,1],[44,44,20,20,144,56,1],[48,48,22,22,174,68,1],[52,52,24,24,204,84,2],[64,64,14,14,280,112,2],[72,72,16,16,368,144,4],[80,80,18,18,456,192,4],[88,88,20,20,576,224,4],[96,96,22,22,696,272,4],[104,104,24,24,816,336,6],[120,120,18,18,1050,408,6],[132,132,20,20,1304,496,8],[144,144,22,22,1558,620,10],[8,18,6,16,5,7,1],[8,32,6,14,10,11,1],[12,26,10,24,16,14,1],[12,36,10,16,22,18,1],[16,36,14,16,32,24,1],[16,48,14,22,49,28,1]]
structure Dz where
 a:Nat
 b:Nat
 ra:Nat
 rb:Nat
 d:Nat
 c:Nat
 n:Nat
def Q8(r:List Nat):Dz:=⟨r.getD 0 0,r.getD 1 0,r.getD 2 0,r.getD 3 0,r.getD 4 0,r.getD 5 0,r.getD 6 0⟩
def dz(i:Nat):Dz:=Q8 (szT.getD i [])
def Dz.ck(z:Dz):Nat:=z.c/z.n
def Dz.cells(z:Dz):List Int:=[(z.a:Int),(z.b:Int),(z.ra:Int),(z.rb:Int),(z.d:Int),(z.c:Int),(z.n:Int)]
structure Dz.Ok (z:Dz):Prop where
 n1:1<=z.n
 n2:z.n<=10
 dn:z.n<=z.d
 d2:z.d<=1558
 c2:z.c<=620
 cn:z.c=z.n*z.ck
 k1:1<=z.ck
 k2:z.ck<=68
 all:z.d+z.c<=250*z.n
theorem oa(hi:i<30):(dz i).Ok:=by
 have h:∀i,i<30->(1<=(dz i).n/\(dz i).n<=10/\(dz i).n<=(dz i).d/\(dz i).d<=1558/\(dz i).c<=620/\(dz i).c=(dz i).n*(dz i).ck/\1<=(dz i).ck/\(dz i).ck<=68/\(dz i).d+(dz i).c<=250*(dz i).n):=by decide +kernel
 obtain⟨a,b,c,d,e,f,g,h,i⟩:=h i hi;exact⟨a,b,c,d,e,f,g,h,i⟩
def cnt(N n x:Nat):Nat:=(N+n-1-x)/n
theorem eC{N n x k:Nat}(hx:x<n):k<cnt N n x↔x+k*n<N:=by
 unfold cnt;rw[Nat.lt_iff_add_one_le,Nat.le_div_iff_mul_le byO,Nat.add_mul,Nat.one_mul];omega
theorem FT{N n x k:Nat}(hx:x<n):cnt (N+n*k) n x=cnt N n x+k:=by
 unfold cnt;rw[show N+n*k+n-1-x=N+n-1-x+n*k by omega,Nat.add_mul_div_left _ _ byO]
theorem vG{N n x:Nat}(hx:x<n):cnt (N+1) n x=if N%n=x then cnt N n x+1 else cnt N n x:=by
 have h:∀k,k<cnt (N+1) n x↔k<(if N%n=x then cnt N n x+1 else cnt N n x):=by
  intro k;rw[eC hx];by_cases e:N%n=x
  ·have hd:=Nat.div_add_mod N n
   have h1:cnt N n x=N/n:=by
    apply Nat.le_antisymm
    ·apply Nat.le_of_not_lt;intro h
     rw[eC hx,ba₀]at h;omega
    ·apply Nat.le_of_not_lt;intro h
     obtain⟨m,hm⟩:∃m,N/n=m+1:=⟨N/n-1,byO⟩;have:¬ m<cnt N n x:=byO;rw[eC hx,ba₀]at this;rw[hm,Nat.mul_add]at hd;omega
   rw[if_pos e,h1,Nat.lt_succ_iff];constructor
   ·intro h
    apply Nat.le_of_not_lt;intro hc;have hc:N/n+1<=k:=byO;have:=Nat.mul_le_mul_left n hc;rw[Nat.mul_add,ba₀ n k]at this;omega
   ·intro h
    have h:k<=N/n:=byO;have:=Nat.mul_le_mul_left n h;rw[ba₀ n k]at this;omega
  ·rw[if_neg e,eC hx]
   constructor
   ·intro h
    apply Nat.lt_of_le_of_ne byO;rintro rfl;apply e;rw[Nat.add_mul_mod_self_right,Nat.mod_eq_of_lt hx]
   ·omega
 apply Nat.le_antisymm
 ·apply Nat.le_of_not_lt;intro hc
  have:=(h _).1 hc;omega
 ·apply Nat.le_of_not_lt;intro hc
  have:=(h _).2 hc;omega
theorem CI{N n:Nat}(hn:0<n):cnt N n (N%n)=N/n:=by
 have hx:=Nat.mod_lt N hn;have h:=Nat.div_add_mod N n;apply Nat.le_antisymm
 ·apply Nat.le_of_not_lt;intro hc
  rw[eC hx,ba₀]at hc;omega
 ·apply Nat.le_of_not_lt;intro hc
  obtain⟨m,hm⟩:∃m,N/n=m+1:=⟨N/n-1,byO⟩;have:¬ m<cnt N n (N%n):=byO;rw[eC hx,ba₀]at this;rw[hm,Nat.mul_add]at h;omega
theorem qD{N n j:Nat}(hn:0<n)(hj:j<N):j/n<cnt N n (j%n):=by
 rw[eC (Nat.mod_lt j hn),ba₀];have:=Nat.div_add_mod j n;omega
def fW(F:Nat->Nat):Nat->Nat
 | 0=>0
 | n+1=>fW F n+F n
theorem mj{F G:Nat->Nat}:∀{n:Nat},(∀x,x<n->F x=G x)->fW F n=fW G n
 | 0,_=>rfl
 | n+1,h=>by rw[fW,fW,mj fun x hx=>h x byO,h n byO]
theorem oQ{F G:Nat->Nat}{x0:Nat}:∀{n:Nat},(∀x,x<n->G x=if x=x0 then F x+1 else F x)->fW G n=fW F n+if x0<n then 1 else 0
 | 0,_=>rfl
 | n+1,h=>by
  rw[fW,fW,oQ (F:=F) (x0:=x0) (n:=n) fun x hx=>h x byO,h n byO];by_cases e:n=x0
  ·subst e;simp;omega
  ·rw[if_neg e]
   by_cases e2:x0<n
   ·rw[if_pos e2,if_pos byO];omega
   ·rw[if_neg e2,if_neg byO];omega
theorem tI:∀n,fW (fun _=>0) n=0
 | 0=>rfl
 | n+1=>by rw[fW,tI n]
theorem rJ{n:Nat}(hn:0<n)(φ:Nat->Nat->Bool):∀N,fW (fun x=>(sel (φ x) (cnt N n x)).length) n=(sel (fun j=>φ (j%n) (j/n)) N).length
 | 0=>by
  have:∀x,x<n->cnt 0 n x=0:=fun x hx=>by unfold cnt;exact Nat.div_eq_of_lt byO
  rw[mj (G:=fun _=>0) fun x hx=>by rw[this x hx];rfl,tI];rfl
 | N+1=>by
  have ih:=rJ hn φ N;have hx:=Nat.mod_lt N hn;rw[ba,as₀,<-ih];by_cases h:φ (N%n) (N/n)=true
  ·rw[if_pos h]
   rw[oQ (F:=fun x=>(sel (φ x) (cnt N n x)).length) (x0:=N%n) fun x hx2=>?_,if_pos hx]
   ·rfl
   ·rw[vG hx2]
    by_cases e:x=N%n
    ·subst e
     rw[if_pos rfl,if_pos rfl,ba,CI hn,if_pos h];simp
    ·rw[if_neg e,if_neg (fun h=>e h.symm)]
  ·rw[if_neg h,an₀,Nat.add_zero]
   refine mj fun x hx2=>?_;rw[vG hx2];by_cases e:N%n=x
   ·subst e
    rw[if_pos rfl,ba,CI hn,if_neg h,List.append_nil]
   ·rw[if_neg e]
def lC{α:Type}(l:List α)(d:α)(n x:Nat):List α:=(List.range (cnt l.length n x)).map fun k=>l.getD (x+k*n) d
theorem lD{α:Type}(l:List α)(d:α)(n x:Nat):(lC l d n x).length=cnt l.length n x:=by simp[lC]
abbrev F1:FD:=fB 301
abbrev g1:El F1:=eB 301 2
theorem xy:OkF 2 256 301 (fB 301):=⟨OkC.ok,rfl,rfl,rfl⟩
theorem JQ:Gn (OkC.ok (f:=fB 301)) (eB 301 2):=by
 refine⟨by decide,Gj bf301 Kd,fun x h1 h2 h=>?_⟩;have h3:x.val=1:=by
  have:x.val<2:=h2;omega
 have:x=eB 301 1:=El.ext h3;subst this;exact wJ h
theorem JG{c:Nat}(h1:1<=c)(h2:c<=254):CdOK F1 c 1:=⟨h1,h2,by decide⟩
noncomputable def Qc(r:Nat)(d:List (El F1)):List (El F1):=@Classical.epsilon _ ⟨[]⟩ fun w=>IsEnc g1 r 1 d w
noncomputable def Dz.W(z:Dz)(e:List (El F1))(x:Nat):List (El F1):=Qc z.ck (lC e 0 z.n x)
noncomputable def ilv(n:Nat)(W:Nat->List (El F1))(N:Nat):List Int:=(List.range N).map fun j=>(((co (W (j%n)) (j/n)).val:Nat):Int)
theorem tw(n:Nat)(W:Nat->List (El F1))(N:Nat):(ilv n W N).length=N:=by simp[ilv]
theorem lR{n:Nat}{W:Nat->List (El F1)}{x k:Nat}(hx:x<n):(x+k*n)%n=x/\(x+k*n)/n=k:=by
 refine⟨?_,?_⟩
 ·rw[Nat.add_mul_mod_self_right,Nat.mod_eq_of_lt hx]
 ·rw[Nat.add_mul_div_right _ _ byO,Nat.div_eq_of_lt hx,Nat.zero_add]
def wdE(z:Dz)(wl:List Int)(x:Nat):List (El F1):=(lC wl 0 z.n x).map fun v=>eB 301 v.toNat
theorem pW(z:Dz)(wl:List Int)(x:Nat):(wdE z wl x).length=cnt wl.length z.n x:=by unfold wdE;rw[ay₀,lD]
theorem Kl{q:Int}{l:List Int}(h:inF q l=true){v:Int}(hv:v ∈ l):0<=v/\v<q:=by
 have:=List.all_eq_true.1 h v hv;simpa using this
theorem AI{z:Dz}{wl:List Int}(h:inF 256 wl=true)(x:Nat):ml (wdE z wl x)=lC wl 0 z.n x:=by
 unfold ml wdE;rw[List.map_map];refine(List.map_congr_left fun v hv=>?_).trans (List.map_id _);have hb:0<=v/\v<256:=by
  unfold lC at hv;obtain⟨k,_,rfl⟩:=List.mem_map.1 hv;rw[au₀];rcases hq:wl[x+k*z.n]? with _|u
  ·exact⟨by decide,by decide⟩
  ·exact Kl h (List.mem_of_getElem? hq)
 show(((v.toNat%256:Nat)):Int)=v;omega
def OkX(z:Dz)(wl:List Int)(x:Nat):Prop:=DecOK g1 z.ck 1 (wdE z wl x) (erI [])
noncomputable def fxX(z:Dz)(wl:List Int)(x:Nat):List (El F1):=gA g1 z.ck 1 (wdE z wl x) (erI [])
theorem yz(z:Dz)(wl:List Int)(x:Nat):(fxX z wl x).length=cnt wl.length z.n x:=by unfold fxX;rw[j0,pW]
noncomputable def nch(z:Dz)(wl:List Int)(x:Nat):Nat:=(sel (fun i=>decide (co (fxX z wl x) i≠co (wdE z wl x) i)) (wdE z wl x).length).length
theorem uK(z:Dz)(wl:List Int)(x:Nat):nch z wl x<=cnt wl.length z.n x:=by
 have:=List.length_filter_le (fun i=>decide (co (fxX z wl x) i≠co (wdE z wl x) i)) (List.range (wdE z wl x).length);rw[List.length_range]at this;exact Nat.le_trans this (Nat.le_of_eq (pW z wl x))
open Go.Abs
theorem wT:∀f cf,cp f=some cf->aI cf=true:=l6
structure Sz where
 r:Int
 c:Int
 rr:Int
 rc:Int
 d:Int
 k:Int
 b:Int
 deriving DecidableEq
def Sz.cells(s:Sz):List Value:=[.int .i64 s.r,.int .i64 s.c,.int .i64 s.rr,.int .i64 s.rc,.int .i64 s.d,.int .i64 s.k,.int .i64 s.b]
def Sz.zero:Sz:=⟨0,0,0,0,0,0,0⟩
def Sz.val(s:Sz):Value:=.agg #[.int .i64 s.r,.int .i64 s.c,.int .i64 s.rr,.int .i64 s.rc,.int .i64 s.d,.int .i64 s.k,.int .i64 s.b]
def szs:List Sz:=[⟨10,10,8,8,3,5,1⟩,⟨12,12,10,10,5,7,1⟩,⟨14,14,12,12,8,10,1⟩,⟨16,16,14,14,12,12,1⟩,⟨18,18,16,16,18,14,1⟩,⟨20,20,18,18,22,18,1⟩,⟨22,22,20,20,30,20,1⟩,⟨24,24,22,22,36,24,1⟩,⟨26,26,24,24,44,28,1⟩,⟨32,32,14,14,62,36,1⟩,⟨36,36,16,16,86,42,1⟩,⟨40,40,18,18,114,48,1⟩,⟨44,44,20,20,144,56,1⟩,⟨48,48,22,22,174,68,1⟩,⟨52,52,24,24,204,84,2⟩,⟨64,64,14,14,280,112,2⟩,⟨72,72,16,16,368,144,4⟩,⟨80,80,18,18,456,192,4⟩,⟨88,88,20,20,576,224,4⟩,⟨96,96,22,22,696,272,4⟩,⟨104,104,24,24,816,336,6⟩,⟨120,120,18,18,1050,408,6⟩,⟨132,132,20,20,1304,496,8⟩,⟨144,144,22,22,1558,620,10⟩,⟨8,18,6,16,5,7,1⟩,⟨8,32,6,14,10,11,1⟩,⟨12,26,10,24,16,14,1⟩,⟨12,36,10,16,22,18,1⟩,⟨16,36,14,16,32,24,1⟩,⟨16,48,14,22,49,28,1⟩]
def szCells:List Value:=szs.flatMap Sz.cells
set_option maxRecDepth 100000 in
theorem Qd:((run cp 40).ret 0 55 [] []).map (fun r=>(r.1,r.2.get 1))=some (.slice (some ⟨1,0,none⟩) 30 30,some szCells):=by kernel_rfl
set_option maxRecDepth 100000 in
theorem Qe:((run cp 40).ret 0 26 [] []).map (fun r=>(r.1,r.2.get 120))=some (.slice (some ⟨120,0,some 7⟩) 30 30,some szCells):=by kernel_rfl
theorem zy:szCells.all bO=true:=by kernel_rfl
theorem zq{lo:Nat}{H:Heap}(hlo:lo<=H.length):Ev cp lo 55 [] H (fun v H'=>∃j,H.length<=j/\v=.slice (some ⟨j,0,none⟩) 30 30/\H'.get j=some szCells/\Ext H H'):=
 kK wT rfl Qd zy hlo
theorem zr{lo:Nat}{H:Heap}(hlo:lo<=H.length):Ev cp lo 26 [] H (fun v H'=>∃j,H.length<=j/\v=.slice (some ⟨j,0,some 7⟩) 30 30/\H'.get j=some szCells/\Ext H H'):=
 kK wT rfl Qe zy hlo
def bZ(i:Nat):Sz:=szs.getD i Sz.zero
theorem gP:szs.length=30:=rfl
theorem gY:szCells.length=210:=by kernel_rfl
theorem CC(l:List Sz):∀(i:Nat),i<l.length->((l.flatMap Sz.cells).drop (i*7)).take 7=(l.getD i Sz.zero).cells:=by
 induction l with
 | nil=>intro i h;simp at h
 | cons s l ih=>
  intro i h;cases i with
  | zero=>simp[Sz.cells]
  | succ i=>
   have:=ih i (by simpa using h);rw[Nat.succ_mul,List.flatMap_cons,List.drop_append];simp only[Sz.cells,ak₀,an₀];rw[show i*7+7-7=i*7 by omega];simpa[Sz.cells]using this
theorem gH(h:i<30):(szCells.drop (i*7)).take 7=(bZ i).cells:=CC szs i (by rw[gP];exact h)
theorem iG(h:i<30):szs.take (i+1)=szs.take i++[bZ i]:=by
 rw[List.take_add_one];congr 1;unfold bZ;rw[bb₀ (by rw[gP];exact h)];simp[List.getD,bb₀ (show i<szs.length by rw[gP];exact h)]
end Go.Proofs.YtmnlgdpdgjbfgaaGreat
