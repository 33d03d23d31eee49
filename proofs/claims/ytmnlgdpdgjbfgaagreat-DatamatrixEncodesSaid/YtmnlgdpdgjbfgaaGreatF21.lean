/- Lemmas. -/
import Derived.Test.YtmnlgdpdgjbfgaaGreatF10
import Derived.Test.YtmnlgdpdgjbfgaaGreatF20
set_option linter.all false
namespace Go.Proofs.YtmnlgdpdgjbfgaaGreat
open Go.Abs Go.RS
variable{H:Heap}{lo:Nat}
set_option maxRecDepth 20000
theorem DF{x:Nat}(h:x≠0):bY x=bY (x/2)+1:=by
 by_cases h1:x=1
 ·subst h1;rfl
 have:=oQ (k:=1) (x:=x) byO;simp at this;omega
open XGd
theorem oa{p:Int}(hp:p<=9223372036854775807):Ev cp lo 156 [.int .i64 p] H (fun v H'=>H'=H/\v=.int .i64 ((bY p.toNat:Nat)-1)):=by
 by_cases hneg:p<=0
 ·refine stG rfl rfl ?_;unfold EG;simp only[kB,aD]
  refine aA ?_;refine aY (fun m S H'=>H=H'/\S=[.int .i64 p,.int .i64 0,.int .i64 (-1)]) 0 ⟨rfl,rfl⟩ ?_;rintro m S H' ⟨rfl,rfl⟩;(try simp only[aD]);refine aP ?_ ?_<;>intro h
  ·simp at h;omega
  clear h;refine aA ?_;refine aK ?_;refine⟨rfl,?_⟩;rw[show p.toNat=0 by omega,pR];rfl
 obtain⟨n,rfl⟩:=Int.eq_ofNat_of_zero_le (show 0<=p by omega);have hn:=eA (show n<2^63 by omega);rw[Int.toNat_natCast];refine stG rfl rfl ?_;unfold EG;simp only[kB,aD];refine aA ?_;refine aY (fun m S H'=>H=H'/\∃x:Nat,x<=n/\m=x/\bY x<=bY n/\S=[.int .i64 x,.int .i64 0,.int .i64 ((bY n:Nat)-1-(bY x:Nat))]) n ?_ ?_
 ·exact⟨rfl,n,Nat.le_refl _,rfl,Nat.le_refl _,by rw[show((bY n:Nat):Int)-1-(bY n:Nat)=-1 by omega]⟩
 rintro m S H' ⟨rfl,x,hx,rfl,hlx,rfl⟩;(try simp only[aD]);refine aP ?_ ?_<;>intro h
 ·have hm:m≠0:=by simp at h;omega
  clear h;have h1:=DF hm;have e1:(m:Int).tdiv 2=((m/2:Nat):Int):=by rw[Int.tdiv_eq_ediv_of_nonneg byO];rfl
  refine aA ?_;simp only[ak];exact⟨m/2,byO,by trivial,m/2,byO,rfl,byO,by rw[show((bY n:Nat):Int)-1-(bY (m/2):Nat)=(bY n:Nat)-1-(bY (m/2)+1:Nat)+1 by omega]⟩
 ·have hm:m=0:=by simp at h;omega
  clear h;subst hm;rw[pR];refine aA ?_;refine aK ?_;exact⟨rfl,by simp[aM]⟩
theorem qc{x k:Nat}:x/2^k%2=1↔x.testBit k=true:=by
 rw[Nat.testBit_eq_decide_div_mod_eq];simp
theorem DL{x k:Nat}(h:x<2^(k+1))(hb:¬ x/2^k%2=1):x<2^k:=by
 apply Decidable.byContradiction;intro hc;have h0:x≠0:=by have:0<2^k:=Nat.pow_pos byO;omega
 have hl:=lU byO h;have:=j0 h0;rw[hl]at this;exact hb (qc.2 this)
theorem MH{p q:Nat}(hp:p<2^62)(hq:q<2^62)(hq0:q≠0):Ev cp lo 113 [.int .i64 p,.int .i64 q] H (fun v H'=>H'=H/\v=.int .i64 (rm p q:Nat)):=by
 have hlq:=dU hq0;have hlq2:=eA hq;have hlp2:=eA hp;have hlq':bY q<=q.log2+1/\q.log2+1<=bY q:=byO;have hpl:p<2^bY p:=by
  by_cases h:p=0
  ·rw[h];exact Nat.pow_pos byO
  ·rw[dU h];exact cV p
 clear hlq;refine stG rfl rfl ?_;unfold Ko;simp only[kB,aD];refine aA ?_;refine aT ?_;refine aC (oa (p:=(q:Int)) byO) ?_;rintro v H1 ⟨rfl,rfl⟩;rw[Int.toNat_natCast];refine aA ?_;refine aT ?_;refine aC (oa (p:=(p:Int)) byO) ?_;rintro v H2 ⟨rfl,rfl⟩;rw[Int.toNat_natCast];refine aA ?_;refine aY (fun m S H'=>H2=H'/\∃(x j:Nat) (z5 z6:Value),x<2^62/\j<=62/\x<2^j/\m=j/\rm x q=rm p q/\S=[.int .i64 (x:Nat),.int .i64 (q:Nat),.int .i64 0,.int .i64 ((bY q:Nat)-1),.int .i64 ((j:Nat)-1),z5,z6]) (bY p) ?_ ?_
 ·exact⟨rfl,p,bY p,_,_,hp,hlp2,hpl,rfl,rfl,rfl⟩
 rintro m S H' ⟨rfl,x,j,z5,z6,hx,hj,hxj,rfl,hrm,rfl⟩;(try simp only[aD]);refine aP ?_ ?_<;>intro h
 ·have hc:bY q<=m:=by simp at h;omega
  clear h;obtain⟨k,rfl⟩:∃k,m=k+1:=⟨m-1,byO⟩;have e0:(((k+1:Nat):Int)-1)=(k:Int):=byO;have e1:(k:Int)-((bY q:Nat)-1)=((k-q.log2:Nat):Int):=byO;have a1:=mV x k .i64 (by show k<=64;omega);have a2:=qx (b:=x/2^k) (by
   have:=Nat.div_le_self x (2^k);omega)
  have hsl:q <<< (k-q.log2)<2^(q.log2+1+(k-q.log2)):=HK (cV q);have hpw:2^(q.log2+1+(k-q.log2))<=2^62:=Nat.pow_le_pow_right byO byO;have hsl2:=hsl;rw[Nat.shiftLeft_eq]at hsl2;have a3:=kr (a:=q) (k:=k-q.log2) byO byO;have a4:=ig (a:=x) (b:=q <<< (k-q.log2)) byO byO;(try simp only[aD]);refine aP ?_ ?_<;>intro h
  ·have hb:x/2^k%2=1:=by have h2:=of_decide_eq_true h;generalize x/2^k%2=z at *;omega
   clear h;have hx0:x≠0:=by rintro rfl;simp at hb
   have hge:2^k<=x:=Nat.ge_two_pow_of_testBit (qc.1 hb);have hxl:=lU hge hxj;have hred:=A4 hq0 hx0 byO;rw[hxl]at hred;clear hxl;refine aA ?_;simp only[ak];refine⟨k,byO,by trivial,x ^^^ q <<< (k-q.log2),k,_,_,by
    have:2^k<=2^62:=Nat.pow_le_pow_right byO byO;omega,byO,hred,rfl,by rw[<-hrm,<-gP,wU hq0],rfl⟩
  ·have hb:¬ x/2^k%2=1:=by have h2:=of_decide_eq_false h;generalize x/2^k%2=z at *;omega
   clear h;refine aA ?_;simp only[ak];exact⟨k,byO,by trivial,x,k,_,_,hx,byO,DL hxj hb,rfl,hrm,rfl⟩
 ·have hc:m<bY q:=by simp at h;omega
  clear h;have hmr:rm x q=x:=ic hq0 (bd₀ hxj (Nat.pow_le_pow_right byO byO));rw[hmr]at hrm;refine aA ?_;refine aK ?_;exact⟨rfl,by rw[<-hrm];rfl⟩
theorem PS{n:Nat}(hn:n<=4096)(hn2:2<=n):Ev cp lo 158 [.int .i64 n] H (fun v H'=>H'=H/\∃b,v=.bool b/\(b=true↔PrN n)):=by
 refine stG rfl rfl ?_;unfold LO;simp only[kB,aD];refine aA ?_;refine aY (fun m S H'=>∃(d:Nat),2<=d/\d<=n+2/\m=n+3-d/\H=H'/\(∀e,2<=e->e<d->e*e<=n->n%e≠0)/\S=[.int .i64 n,.bool false,.int .i64 d]) (n+1) ?_ ?_
 ·exact⟨2,byO,byO,byO,rfl,fun e h1 h2=>byO,rfl⟩
 rintro m S H' ⟨d,h2,hle,rfl,rfl,hno,rfl⟩;have hm:=vk (a:=(d:Int)) (b:=(d:Int)) (A:=5000) (B:=5000) byO byO byO byO byO;(try simp only[aD]);refine aP ?_ ?_<;>intro h
 ·have hc:d*d<=n:=by simp at h;omega
  clear h;have hdn:d<=n:=Nat.le_trans (Nat.le_mul_of_pos_left d byO) hc;have hmod:(n:Int).tmod (d:Int)=((n%d:Nat):Int):=by rw[Int.tmod_eq_emod_of_nonneg byO];rfl
  (try simp only[aD]);refine aP ?_ ?_<;>intro h
  ·have hz:n%d=0:=by simp at h;omega
   clear h hmod;refine aA ?_;refine aK ?_;exact⟨rfl,false,rfl,by simp;exact fun hp=>hp d h2 hc hz⟩
  ·have hz:n%d≠0:=by simp at h;omega
   clear h hmod;refine aA ?_;simp only[ak];refine⟨n+3-(d+1),byO,d+1,byO,byO,rfl,by trivial,fun e h1 h3=>?_,ncM⟩;by_cases e2:e=d
   ·subst e2;exact fun _=>hz
   ·exact hno e h1 byO
 ·have hc:¬ d*d<=n:=by simp at h;omega
  clear h;refine aA ?_;refine aK ?_;refine⟨rfl,true,by simp[aM];omega,?_⟩;simp only[true_iff];intro e h1 h3;refine hno e h1 ?_ h3;apply Decidable.byContradiction;intro hge;exact hc (Nat.le_trans (Nat.mul_le_mul (show d<=e by omega) (show d<=e by omega)) h3)
theorem VE{p:Int}{d:Nat}(hp:p<2^13)(hd1:1<=d)(hd:d<=12):Ev cp lo 157 [.int .i64 p,.int .i64 d] H (fun v H'=>H'=H/\∃b,v=.bool b/\(b=true↔0<=p/\bY p.toNat=d+1/\Irr p.toNat)):=by
 refine stG rfl rfl ?_;unfold LN;simp only[kB,aD];refine aA ?_;by_cases hneg:p<0
 ·refine aU aN dP aN (fun h=>by simp[hneg]at h) (fun h=>?_)
  clear h;(try simp only[aD]);refine bL ?_;refine aA ?_;refine aK ?_;exact⟨rfl,false,rfl,by simp;omega⟩
 obtain⟨n,rfl⟩:=Int.eq_ofNat_of_zero_le (show 0<=p by omega);rw[Int.toNat_natCast];have hn:=eA (show n<2^63 by omega);refine aU aN dP aN (fun h=>⟨_,aN,?_⟩) (fun h=>by simp[hneg]at h);clear h;refine aC (oa (p:=(n:Int)) byO) ?_;rintro v H1 ⟨rfl,rfl⟩;rw[Int.toNat_natCast];(try simp only[aD]);refine aP ?_ ?_<;>intro h
 ·have hc:bY n≠d+1:=by simp at h;omega
  clear h;refine aA ?_;refine aK ?_;exact⟨rfl,false,rfl,by simp;intro h1;exact absurd h1 hc⟩
 have hc:bY n=d+1:=by simp at h;omega
 clear h;have hn0:n≠0:=by rintro rfl;rw[pR]at hc;omega
 have hlog:n.log2=d:=by rw[dU hn0]at hc;omega
 have hn2:2<=n:=by
  have:=gH hn0;rw[hlog]at this;have h2:2^1<=2^d:=Nat.pow_le_pow_right byO hd1;omega
 have hc':bY n<=d+1/\d+1<=bY n:=byO;have hlog':n.log2<=d/\d<=n.log2:=byO;clear hc hlog;refine aA ?_;refine aY (fun m S H'=>∃(q:Nat) (z4 z5 z6 z7:Value),2<=q/\q<=n+1/\m=n+2-q/\H1=H'/\(∀t,2<=t->t<q->2*t.log2<=n.log2->¬ ∃m,n=cl t m)/\S=[.int .i64 (n:Nat),.int .i64 (d:Nat),.bool false,.int .i64 (q:Nat),z4,z5,z6,z7]) n ?_ ?_
 ·exact⟨2,_,_,_,_,byO,byO,byO,rfl,fun t h1 h2=>byO,rfl⟩
 rintro m S H' ⟨q,z4,z5,z6,z7,hq2,hqp,rfl,rfl,hno,rfl⟩;have hq0:q≠0:=byO;have hlq:=dU hq0;have hlq3:=eA (show q<2^63 by omega);have hlq':bY q<=q.log2+1/\q.log2+1<=bY q:=byO;clear hlq;refine bF ?_;refine aC (oa (p:=(q:Int)) byO) ?_;rintro v H2 ⟨rfl,rfl⟩;rw[Int.toNat_natCast];(try simp only[aD]);refine aP ?_ ?_<;>intro h
 ·have hc:2*q.log2<=n.log2:=by simp at h;omega
  clear h;have hlt:q<n:=by
   have h1:=oT hq2;have h3:=cV q;have h4:2^(q.log2+1)<=2^n.log2:=Nat.pow_le_pow_right byO byO;have h5:=gH hn0;omega
  refine bF ?_;refine aC (MH (p:=n) (q:=q) byO byO hq0) ?_;rintro v H1 ⟨rfl,rfl⟩;have hz:=CB (p:=n) hq0;(try simp only[aD]);refine aP ?_ ?_<;>intro h
  ·have hr:rm n q=0:=by simp at h;omega
   clear h;refine aA ?_;refine aK ?_;exact⟨rfl,false,rfl,by simp;exact fun _ hi=>hi q hq2 hc (hz.1 hr)⟩
  ·have hr:rm n q≠0:=by simp at h;omega
   clear h;refine aA ?_;simp only[ak];refine⟨n+2-(q+1),byO,q+1,_,_,_,_,byO,byO,rfl,by trivial,fun t h1 h3=>?_,ncM⟩;by_cases e:t=q
   ·subst e;exact fun _ hm=>hr (hz.2 hm)
   ·exact hno t h1 byO
 ·have hc:n.log2<2*q.log2:=by simp at h;omega
  clear h;refine aA ?_;refine aK ?_;refine⟨rfl,true,rfl,?_⟩;simp only[true_iff];refine⟨byO,byO,?_⟩;intro t h1 h3;refine hno t h1 ?_ h3;apply Decidable.byContradiction;intro hge;have:=yG (show q<=t by omega) hq0;omega
theorem Be{sz d:Nat}(h:bY sz=d+1):2^d<=sz/\sz<2^(d+1):=by
 have h0:sz≠0:=by rintro rfl;rw[pR]at h;omega
 rw[dU h0]at h;have h1:=gH h0;have h2:=cV sz;rw[show sz.log2=d by omega]at h1 h2;exact⟨h1,h2⟩
theorem Ge{a b:Nat}(h:2^a=2^b):a=b:=by
 rcases Nat.lt_trichotomy a b with h1|h1|h1
 ·have:=Nat.pow_lt_pow_right (a:=2) byO h1;omega
 ·exact h1
 ·have:=Nat.pow_lt_pow_right (a:=2) byO h1;omega
set_option maxHeartbeats 1000000 in
theorem Gy{ch sz po:Int}(hs:sz<=9223372036854775807):Ev cp lo 109 [fv ch sz po] H (fun v H'=>Ext H H'/\∃b,v=.bool b/\(b=true↔∃f,OkF ch sz po f)):=by
 unfold fv;refine stG rfl rfl ?_;unfold Kk;simp only[kB,aD];refine aA ?_;refine aP ?_ ?_<;>intro h
 ·have hch:ch=2:=by simpa using h
  clear h;subst hch;refine bF ?_;refine aC (oa (p:=sz) hs) ?_;rintro v H1 ⟨rfl,rfl⟩;by_cases hd:2<=bY sz.toNat/\bY sz.toNat<=13
  ·obtain⟨d,hde⟩:∃d,bY sz.toNat=d+1:=⟨bY sz.toNat-1,byO⟩
   rw[hde]at hd ⊢;have e0:(((d+1:Nat):Int)-1)=(d:Int):=byO;rw[e0];have a1:=kr (a:=1) (k:=d) (by
    have:2^d<=2^12:=Nat.pow_le_pow_right byO byO;omega) byO
   have a2:=kr (a:=1) (k:=d+1) (by
    have:2^(d+1)<=2^13:=Nat.pow_le_pow_right byO byO;omega) byO
   rw[Nat.shiftLeft_eq,Nat.one_mul]at a1 a2;have a1:IntKind.i64.wrap (1*2^min d IntKind.i64.bits)=((2^d:Nat):Int):=a1;have a2:IntKind.i64.wrap (1*2^min (d+1) IntKind.i64.bits)=((2^(d+1):Nat):Int):=a2;have hp13:2^(d+1)<=2^13:=Nat.pow_le_pow_right byO byO;have e1:((d:Int)+1)=((d+1:Nat):Int):=byO;have n1:(1:Int)<=d:=byO;have n2:(d:Int)<=12:=byO;generalize hQ:2^d=Q at *;generalize hQ2:2^(d+1)=Q2 at *;refine aA ?_;refine aU aN dP aN ?_ ?_<;>intro h
   ·have hcc:sz=(Q:Int)/\po<Q2:=by simp at h;omega
    refine⟨_,aN,?_⟩;refine aC (VE (p:=po) (d:=d) byO byO byO) ?_;rintro v H3 ⟨rfl,b,rfl,hbb⟩;refine aA ?_;refine aK ?_;refine⟨Ext.app _ _,b,by simp[aM],?_⟩;rw[hbb];constructor
    ·rintro⟨hp0,hpl,hi⟩
     have hpn0:po.toNat≠0:=by intro e;rw[e,pR]at hpl;omega
     have hplog:po.toNat.log2=d:=by rw[dU hpn0]at hpl;omega
     have:=Be hpl;have h2d:2^1<=2^d:=Nat.pow_le_pow_right byO byO;refine⟨⟨Q,po.toNat⟩,.inr ⟨hpn0,by simp;omega,by simp;omega,by simp;rw[hplog,hQ],hi⟩,by simp;omega,by simp;omega,?_⟩;show(2:Int)=((if po.toNat=0 then Q else 2:Nat):Int);rw[if_neg hpn0];rfl
    ·rintro⟨f,hf,h1,h2,h3⟩
     have hf2:=hf;rcases hf with ⟨e0,e1,_⟩|⟨e0,e1,e2,e3,hi⟩
     ·unfold FD.ch at h3;rw[if_pos e0]at h3;omega
     ·have hpp:po.toNat=f.poly:=byO
      have hlog:f.poly.log2=d:=by
       have:2^f.poly.log2=2^d:=by rw[<-e3,hQ];omega
       exact Ge this
      rw[hpp];exact⟨byO,by rw[dU e0,hlog],hi⟩
   ·have hcc:¬ (sz=(Q:Int)/\po<Q2):=by
     rintro⟨h1,h2⟩;simp[h1,h2,n1,n2]at h
    refine aA ?_;refine aK ?_;refine⟨Ext.app _ _,false,by simp[aM],?_⟩;simp only[ah₀,false_iff];rintro⟨f,hf,h1,h2,h3⟩;apply hcc;have hf2:=hf;rcases hf with ⟨e0,e1,_⟩|⟨e0,e1,e2,e3,hi⟩
    ·unfold FD.ch at h3;rw[if_pos e0]at h3;omega
    ·have hsz:sz.toNat=2^f.poly.log2:=byO
     have hlp:=Be hde;rw[hsz]at hlp;have k1:d<=f.poly.log2:=by
      have:2^d<2^(f.poly.log2+1):=Nat.lt_of_le_of_lt hlp.1 (Nat.pow_lt_pow_right byO byO);have:=(Nat.pow_lt_pow_iff_right (by omega:1<2)).1 this;omega
     have k2:f.poly.log2<d+1:=(Nat.pow_lt_pow_iff_right (by omega:1<2)).1 hlp.2;have hl:f.poly.log2=d:=byO;rw[hl,hQ]at e3;have:=cV f.poly;rw[hl,hQ2]at this;omega
  ·have hl2:=eA (show sz.toNat<2^63 by omega)
   have hnf:¬ ∃f,OkF 2 sz po f:=by
    rintro⟨f,hf,h1,h2,h3⟩;rcases hf with ⟨e0,e1,_⟩|⟨e0,e1,e2,e3,hi⟩
    ·unfold FD.ch at h3;rw[if_pos e0]at h3;omega
    ·apply hd
     have hsz:sz.toNat=2^f.poly.log2:=byO;have hne:2^f.poly.log2≠0:=Nat.pos_iff_ne_zero.1 (Nat.pow_pos byO);rw[hsz,dU hne,lU (Nat.le_refl _) (Nat.pow_lt_pow_right byO byO)];have:=oT e1;omega
   generalize hL:bY sz.toNat=L at *;have hT:(decide (1<=(L:Int)-1)&&decide ((L:Int)-1<=12))=false:=by
    rw[Bool.eq_false_iff];intro h;simp at h;omega
   have e1:¬ (1<=(L:Int)-1/\(L:Int)-1<=12):=byO;refine aA ?_;refine aU aN dP aN (fun h=>by cases h) (fun h=>?_);clear h;refine aA ?_;refine aK ?_;exact⟨Ext.app _ _,false,rfl,by simpa using hnf⟩
 ·have hch:¬ ch=2:=by simpa using h
  clear h;(try simp only[aD]);refine aU aN dP aN ?_ ?_<;>intro h
  ·have hc:ch=sz/\po=0/\3<=sz/\sz<=4096:=by simp at h;omega
   obtain⟨n,hn⟩:∃n:Nat,(n:Int)=sz:=⟨sz.toNat,byO⟩;refine⟨_,aN,?_⟩;refine aC (by rw[<-hn];exact PS (n:=n) byO byO) ?_;rintro v H1 ⟨rfl,b,rfl,hb⟩;refine aA ?_;refine aK ?_;refine⟨Ext.app _ _,b,by simp[aM],?_⟩;rw[hb,Bz byO];constructor
   ·intro hp
    exact⟨⟨n,0⟩,.inl ⟨rfl,by simp;omega,by simp;omega,hp⟩,by simp;omega,by simp;omega,by simp[FD.ch];omega⟩
   ·rintro⟨f,hf,h1,h2,h3⟩
    rcases hf with ⟨e0,e1,e2,e3⟩|⟨e0,e1,_⟩
    ·have:f.q=n:=byO
     rw[<-this];exact e3
    ·exfalso;omega
  ·have hc:¬ (ch=sz/\po=0/\3<=sz/\sz<=4096):=by
    rintro⟨h1,h2,h3,h4⟩;simp[h1,h2,h3,h4]at h
   refine aA ?_;refine aK ?_;refine⟨Ext.app _ _,false,by simp[aM],?_⟩;simp only[ah₀,false_iff];rintro⟨f,hf,h1,h2,h3⟩;rcases hf with ⟨e0,e1,e2,e3⟩|⟨e0,e1,_⟩
   ·apply hc
    unfold FD.ch at h3;rw[if_pos e0]at h3;omega
   ·unfold FD.ch at h3;rw[if_neg e0]at h3;omega
section
variable {f:FD}[OkC f]
theorem MF(x y:El f):Ev cp lo 67 [fvf f,.int .i64 (x.val:Nat),.int .i64 (y.val:Nat)] H (fun v H'=>Ext H H'/\v=.int .i64 ((x+y).val:Nat)):=by
 have h2:=qle (f:=f);have hx:=x.lt;have hy:=y.lt;have hc:=vK (OkC.ok (f:=f));rw[val_add];have e1:=ig (a:=x.val) (b:=y.val) byO byO;have e2:((x.val:Int)+(y.val:Int)).tmod (f.q:Int)=(((x.val+y.val)%f.q:Nat):Int):=by
  rw[Int.tmod_eq_emod_of_nonneg byO];rfl
 unfold fvf fv;refine stG rfl rfl ?_;unfold Q7;simp only[kB,aD];refine aA ?_;refine aP ?_ ?_<;>intro h
 ·have hp:f.poly≠0:=hc.1 (by simp at h;omega)
  clear h;refine aA ?_;refine aK ?_;refine⟨Ext.app _ _,?_⟩;unfold fj;rw[if_neg hp];rfl
 ·have hp:f.poly=0:=by
   apply Decidable.byContradiction;intro h0;have:=hc.2 h0;simp at h;omega
  clear h;refine aA ?_;refine aK ?_;refine⟨Ext.app _ _,?_⟩;unfold fj;rw[if_pos hp];rfl
theorem A8(x y:El f):Ev cp lo 68 [fvf f,.int .i64 (x.val:Nat),.int .i64 (y.val:Nat)] H (fun v H'=>Ext H H'/\v=.int .i64 ((x-y).val:Nat)):=by
 have h2:=qle (f:=f);have hx:=x.lt;have hy:=y.lt;have hs:(x-y).val=qW f x.val y.val:=(vV (OkC.ok (f:=f)) x.lt y.lt).symm;have hc:=vK (OkC.ok (f:=f));rw[hs];clear hs;have e1:=ig (a:=x.val) (b:=y.val) byO byO;have e2:((x.val:Int)+f.q-y.val).tmod (f.q:Int)=(((x.val+f.q-y.val)%f.q:Nat):Int):=by
  rw[Int.tmod_eq_emod_of_nonneg byO,show(x.val:Int)+f.q-y.val=((x.val+f.q-y.val:Nat):Int) by omega];rfl
 unfold fvf fv;refine stG rfl rfl ?_;unfold Q8;simp only[kB,aD];refine aA ?_;refine aP ?_ ?_<;>intro h
 ·have hp:f.poly≠0:=hc.1 (by simp at h;omega)
  clear h;refine aA ?_;refine aK ?_;refine⟨Ext.app _ _,?_⟩;unfold qW;rw[if_neg hp];rfl
 ·have hp:f.poly=0:=by
   apply Decidable.byContradiction;intro h0;have:=hc.2 h0;simp at h;omega
  clear h;refine aA ?_;refine aK ?_;refine⟨Ext.app _ _,?_⟩;unfold qW;rw[if_pos hp];rfl
theorem yN(b k:Nat):b%2^(k+1)=b%2^k ^^^ (if b/2^k%2=1 then 2^k else 0):=by
 apply Nat.eq_of_testBit_eq;intro i;rw[Nat.testBit_xor,Nat.testBit_mod_two_pow,Nat.testBit_mod_two_pow];by_cases hb:b/2^k%2=1
 ·rw[if_pos hb,Nat.testBit_two_pow]
  have hbk:=qc.1 hb;by_cases h:i=k
  ·subst h;simp[hbk]
  ·have h1:decide (i<k+1)=decide (i<k):=by rw[Bool.eq_iff_iff];simp;omega
   have h2:decide (k=i)=false:=by simp;omega
   rw[h1,h2];simp
 ·rw[if_neg hb,Nat.zero_testBit]
  have hbk:b.testBit k=false:=by rw[Bool.eq_false_iff];exact fun h=>hb (qc.2 h)
  by_cases h:i=k
  ·subst h;simp[hbk]
  ·have h1:decide (i<k+1)=decide (i<k):=by rw[Bool.eq_iff_iff];simp;omega
   rw[h1];simp
theorem E6{a b:Nat}(ha:a<4096)(hb:b<4096):cl a b<2^30:=by
 have h:=Ln (a:=a) (b:=b);have key:∀n:Nat,n<4096->n.log2<=11:=by
  intro n hn;by_cases h0:n=0
  ·rw[h0];decide
  ·have:=Nat.lt_of_le_of_lt (gH h0) (show n<2^12 by omega)
   have:=(Nat.pow_lt_pow_iff_right (by omega:1<2)).1 this;omega
 have h1:=key a ha;have h2:=key b hb;exact bd₀ h (Nat.pow_le_pow_right byO byO)
theorem pb(x y:El f):Ev cp lo 69 [fvf f,.int .i64 (x.val:Nat),.int .i64 (y.val:Nat)] H (fun v H'=>Ext H H'/\v=.int .i64 ((x*y).val:Nat)):=by
 have h2:=qle (f:=f);have hx:=x.lt;have hy:=y.lt;have hc:=vK (OkC.ok (f:=f));rw[val_mul];generalize x.val=a at *;generalize y.val=b at *;unfold fvf fv;refine stG rfl rfl ?_;unfold Q9;simp only[kB,aD];refine aA ?_;refine aP ?_ ?_<;>intro h
 ·have hp:f.poly=0:=by
   apply Decidable.byContradiction;intro h0;have:=hc.2 h0;simp at h;omega
  clear h;have hm:=vk (a:=(a:Int)) (b:=(b:Int)) (A:=4096) (B:=4096) byO byO byO byO byO;have hmod:((a:Int)*(b:Int)).tmod (f.q:Int)=((a*b%f.q:Nat):Int):=by
   rw[<-Int.natCast_mul,Int.tmod_eq_emod_of_nonneg byO];rfl
  refine aA ?_;refine aK ?_;refine⟨Ext.app _ _,?_⟩;unfold eH;rw[if_pos hp];rfl
 have hp:f.poly≠0:=hc.1 (by simp at h;omega);clear h;have hfm:eH f a b=rm (cl a b) f.poly:=by unfold eH;rw[if_neg hp]
 have hpb:=j4 (OkC.ok (f:=f));have hpb2:f.poly<2^13:=by
  rcases(OkC.ok (f:=f))with ⟨e,_⟩|⟨_,hP,hP12,hq,hi⟩
  ·exact absurd e hp
  ·exact bd₀ (cV f.poly) (Nat.pow_le_pow_right byO byO)
 rw[hfm];clear hfm;generalize hG:H++_=G at *;have g0:G.get H.length=some [Value.int .i64 (FD.ch f:Nat),Value.int .i64 (f.q:Nat),Value.int .i64 (f.poly:Nat)]:=by rw[<-hG];exact aF
 have hxG:Ext H G:=by rw[<-hG];exact Ext.app _ _
 clear hG;refine aA ?_;refine aY (fun m S H'=>G=H'/\∃(k:Nat) (z0 z7:Value),k<=12/\m=13-k/\S=[z0,.int .i64 (a:Nat),.int .i64 (b:Nat),.pointer (some ⟨H.length,0,none⟩),.int .i64 0,.int .i64 (cl a (b%2^k):Nat),.int .i64 (k:Nat),z7]) 13 ?_ ?_
 ·exact⟨rfl,0,_,_,byO,byO,by rw[show b%2^0=0 by omega,fw];rfl⟩
 rintro m S H' ⟨rfl,k,z0,z7,hk,rfl,rfl⟩;have a1:=mV b k .i64 (by show k<=64;omega);have hdl:=Nat.div_le_self b (2^k);have a2:=qx (b:=b/2^k) byO;have hak:a*2^k<2^24:=by
  have h1:2^k<=2^12:=Nat.pow_le_pow_right byO hk;have h3:a*2^k<=4095*2^12:=Nat.mul_le_mul byO h1;omega
 have a3:=kr (a:=a) (k:=k) byO byO;have hmodle:=Nat.mod_le b (2^k);have hclb:=E6 (a:=a) (b:=b%2^k) byO byO;have a4:=ig (a:=cl a (b%2^k)) (b:=a <<< k) byO (by rw[Nat.shiftLeft_eq];omega);have hmx:=yN b k;(try simp only[aD]);refine aP ?_ ?_<;>intro h
 ·have hpos:b/2^k≠0:=by have h3:=of_decide_eq_true h;generalize b/2^k=z at *;omega
  clear h;have hk11:k<=11:=by
   apply Decidable.byContradiction;intro hcc;apply hpos;have:2^12<=2^k:=Nat.pow_le_pow_right byO byO;exact Nat.div_eq_of_lt byO
  (try simp only[aD]);refine aP ?_ ?_<;>intro h
  ·have hb:b/2^k%2=1:=by have h3:=of_decide_eq_true h;generalize b/2^k%2=z at *;omega
   clear h;rw[if_pos hb]at hmx;refine aA ?_;simp only[ak];exact⟨13-(k+1),byO,by trivial,k+1,_,_,byO,rfl,by rw[hmx,jd,gP];first|rfl|(simp only[ap₀,Int.natCast_one];rfl)⟩
  ·have hb:¬ b/2^k%2=1:=by have h3:=of_decide_eq_false h;generalize b/2^k%2=z at *;omega
   clear h;rw[if_neg hb,Nat.xor_zero]at hmx;refine aA ?_;simp only[ak];exact⟨13-(k+1),byO,by trivial,k+1,_,_,byO,rfl,by rw[hmx];first|rfl|(simp only[ap₀,Int.natCast_one];rfl)⟩
 ·have hz:b/2^k=0:=by have h3:=of_decide_eq_false h;generalize b/2^k=z at *;omega
  clear h;have hbm:b%2^k=b:=by
   apply Nat.mod_eq_of_lt;rcases Nat.div_eq_zero_iff.1 hz with h3|h3
   ·have:0<2^k:=Nat.pow_pos byO;omega
   ·exact h3
  rw[hbm]at hclb ⊢;clear a1 a2 a3 a4 hmx;refine bF ?_;refine aC (MH (p:=cl a b) (q:=f.poly) byO byO hp) ?_;rintro v H1 ⟨rfl,rfl⟩;refine aA ?_;refine aK ?_;exact⟨hxG,rfl⟩
end
theorem ris{ch sz po x:Int}:Ev cp lo 110 [fv ch sz po,.int .i64 x] H (fun v H'=>Ext H H'/\v=.bool (decide (0<=x)&&decide (x<sz))):=by
 unfold fv;refine stG rfl rfl ?_;unfold Kl;simp only[kB,aD];refine aA ?_;refine aK ?_;exact⟨Ext.app _ _,rfl⟩
section
variable {f:FD}[OkC f]
theorem PK(a:El f)(n:Nat):pw (a*a) n=pw a (2*n):=by
 rw[A3];congr 1;rw[eC,p9]
def fvC(f:FD):List Value:=[.int .i64 (FD.ch f:Nat),.int .i64 (f.q:Nat),.int .i64 (f.poly:Nat)]
theorem PQ(a:El f)(n:Nat)(hn:n<=1000000000000):Ev cp lo 160 [fvf f,.int .i64 (a.val:Nat),.int .i64 n] H (fun v H'=>Ext H H'/\v=.int .i64 ((pw a n).val:Nat)):=by
 unfold fvf fv;refine stG rfl rfl ?_;unfold LQ;simp only[kB,aD];refine aA ?_;generalize hG:H++_=G at *;have g0:G.get H.length=some (fvC f):=by rw[<-hG];exact aF
 have hxG:Ext H G:=by rw[<-hG];exact Ext.app _ _
 clear hG;refine aY (fun m S H'=>Ext H H'/\H'.get H.length=some (fvC f)/\∃(x p:El f) (z0 z6 z7:Value),m<=n/\p*pw x m=pw a n/\S=[z0,.int .i64 (x.val:Nat),.int .i64 (m:Nat),.pointer (some ⟨H.length,0,none⟩),.int .i64 0,.int .i64 (p.val:Nat),z6,z7]) n ?_ ?_
 ·exact⟨hxG,g0,a,1,_,_,_,Nat.le_refl _,one_mul _,rfl⟩
 clear g0 hxG;rintro m S H1 ⟨hx1,g0,x,p,z0,z6,z7,hm,hinv,rfl⟩;unfold fvC at g0;(try simp only[aD]);refine aP ?_ ?_<;>intro h
 ·have hm0:0<m:=by simpa using h
  clear h;have e1:(m:Int).tmod 2=((m%2:Nat):Int):=by rw[Int.tmod_eq_emod_of_nonneg byO];rfl
  have e2:(m:Int).tdiv 2=((m/2:Nat):Int):=by rw[Int.tdiv_eq_ediv_of_nonneg byO];rfl
  (try simp only[aD]);refine eG (fun S' H'=>Ext H H'/\H'.get H.length=some (fvC f)/\∃(z0 z6 z7:Value),S'=[z0,.int .i64 (x.val:Nat),.int .i64 (m:Nat),.pointer (some ⟨H.length,0,none⟩),.int .i64 0,.int .i64 ((if m%2=1 then p*x else p).val:Nat),z6,z7]) ?_ ?_
  ·refine aP ?_ ?_<;>intro h
   ·have ho:m%2=1:=by simp at h;omega
    clear h;refine bF ?_;refine aC (pb p x) ?_;rintro v H2 ⟨hx2,rfl⟩;have g0:=hx2.get g0;refine aA ?_;exact⟨hx1.trans hx2,g0,_,_,_,by rw[if_pos ho]⟩
   ·have ho:¬ m%2=1:=by simp at h;omega
    clear h;(try simp only[aD]);exact⟨hx1,g0,_,_,_,by rw[if_neg ho]⟩
  clear g0 hx1;rintro S' H2 ⟨hx2,g0,z0,z6,z7,rfl⟩;unfold fvC at g0;generalize hp':(if m%2=1 then p*x else p)=p' at *;refine bF ?_;refine aC (pb x x) ?_;rintro v H3 ⟨hx3,rfl⟩;have g0:=hx3.get g0;refine aA ?_;simp only[ak];refine⟨m/2,byO,hx2.trans hx3,g0,x*x,p',_,_,_,byO,?_,rfl⟩;rw[<-hinv,PK,<-hp'];by_cases ho:m%2=1
  ·rw[if_pos ho,mul_assoc]
   congr 1;obtain⟨k,rfl⟩:∃k,m=2*k+1:=⟨m/2,byO⟩;rw[show(2*k+1)/2=k by omega,eC,mul_comm]
  ·rw[if_neg ho,show 2*(m/2)=m by omega]
 ·have hm0:m=0:=by simp at h;omega
  clear h;rw[hm0,iZ,mul_one]at hinv;refine aA ?_;refine aK ?_;exact⟨hx1,by rw[<-hinv];rfl⟩
theorem PO{a:El f}{n:Nat}(hn:Ord a n)(hn2:n<f.q):Ev cp lo 191 [fvf f,.int .i64 (a.val:Nat)] H (fun v H'=>Ext H H'/\v=.int .i64 n):=by
 have h2:=qle (f:=f);unfold fvf fv;refine stG rfl rfl ?_;unfold L6;simp only[kB,aD];refine aA ?_;generalize hG:H++_=G at *;have g0:G.get H.length=some (fvC f):=by rw[<-hG];exact aF
 have hxG:Ext H G:=by rw[<-hG];exact Ext.app _ _
 clear hG;refine aY (fun m S H'=>∃(k:Nat) (z0 z6:Value),1<=k/\k<=n/\m=n-k/\Ext H H'/\H'.get H.length=some (fvC f)/\S=[z0,.int .i64 (a.val:Nat),.pointer (some ⟨H.length,0,none⟩),.int .i64 0,.int .i64 (k:Nat),.int .i64 ((pw a k).val:Nat),z6]) (n-1) ?_ ?_
 ·exact⟨1,_,_,byO,hn.1,rfl,hxG,g0,by rw[p9];rfl⟩
 clear g0 hxG;rintro m S H1 ⟨k,z0,z6,hk1,hkn,rfl,hx1,g0,rfl⟩;unfold fvC at g0;(try simp only[aD]);refine aP ?_ ?_<;>intro h
 ·have hne:(pw a k).val≠1:=by simp at h;omega
  clear h;have hlt:k<n:=by
   apply Decidable.byContradiction;intro hc;have:k=n:=byO;rw[this,hn.2.1]at hne;exact hne rfl
  refine bF ?_;refine aC (pb (pw a k) a) ?_;rintro v H2 ⟨hx2,rfl⟩;have g0:=hx2.get g0;have hx2:=hx1.trans hx2;refine aA ?_;simp only[ak];exact⟨n-(k+1),byO,k+1,_,_,byO,byO,rfl,hx2,g0,ncM⟩
 ·have hkk:k=n:=by
   apply Decidable.byContradiction;intro hc;apply hn.2.2 k byO byO;apply El.ext;rw[TY];simp at h;omega
  clear h;refine aA ?_;refine aK ?_;exact⟨hx1,by rw[<-hkk];rfl⟩
theorem Aa{g:El f}(hg:Gn (OkC.ok (f:=f)) g):Ev cp lo 159 [fvf f] H (fun v H'=>Ext H H'/\v=.int .i64 (g.val:Nat)):=by
 have h2:=qle (f:=f);have hgl:=g.lt;unfold fvf fv;refine stG rfl rfl ?_;unfold LP;simp only[kB,aD];refine aA ?_;generalize hG:H++_=G at *;have g0:G.get H.length=some (fvC f):=by rw[<-hG];exact aF
 have hxG:Ext H G:=by rw[<-hG];exact Ext.app _ _
 clear hG;have hgp:=hg.pos;refine aY (fun m S H'=>∃(k:Nat) (z0 z4 z5:Value),1<=k/\k<=g.val/\m=g.val-k/\Ext H H'/\H'.get H.length=some (fvC f)/\S=[z0,.pointer (some ⟨H.length,0,none⟩),.int .i64 0,.int .i64 (k:Nat),z4,z5]) (g.val-1) ?_ ?_
 ·exact⟨1,_,_,_,byO,byO,rfl,hxG,g0,rfl⟩
 clear g0 hxG;rintro m S H1 ⟨k,z0,z4,z5,hk1,hkn,rfl,hx1,g0,rfl⟩;obtain⟨n,hn,hnq⟩:∃n,Ord (⟨k,byO⟩:El f) n/\n<=f.q-1:=by
  refine(OkC.ok (f:=f)).num.ord ⟨k,byO⟩ (fun e=>?_);have:k=0:=congrArg El.val e;omega
 unfold fvC at g0;(try simp only[aD]);refine aP ?_ ?_<;>intro h;rotate_left
 ·simp at h;omega
 clear h;refine bF ?_;refine bS (PO hn byO) ?_;rintro v H2 ⟨hx2,rfl⟩;have g0:=hx2.get g0;have hx2:=hx1.trans hx2;(try simp only[aD]);refine aP ?_ ?_<;>intro h
 ·have he:n=f.q-1:=by simp at h;omega
  clear h;have hkk:k=g.val:=by
   apply Decidable.byContradiction;intro hc;rw[he]at hn;exact hg.min ⟨k,byO⟩ hk1 (by show k<g.val;omega) hn
  refine aA ?_;refine aK ?_;exact⟨hx2,by rw[<-hkk];rfl⟩
 ·have hne:n≠f.q-1:=by simp at h;omega
  clear h;have hlt:k<g.val:=by
   apply Decidable.byContradiction;intro hc;have hkg:(⟨k,byO⟩:El f)=g:=El.ext (by show k=g.val;omega);rw[hkg]at hn;exact hne (Nat.dvd_antisymm (qn hn (iD hg).2.1) (qn (iD hg) hn.2.1))
  refine aA ?_;simp only[ak];exact⟨g.val-(k+1),byO,k+1,_,_,_,byO,byO,rfl,hx2,g0,ncM⟩
end
end Go.Proofs.YtmnlgdpdgjbfgaaGreat
namespace Go.Proofs.YtmnlgdpdgjbfgaaGreat
open Go.Abs Go.RS
variable{H:Heap}{lo:Nat}
section
variable {f:FD}[OkC f]
theorem yx(n:Nat)(F:Nat->El f):tab (n+1) F=tab n F++[F n]:=by simp[tab,List.range_succ]
theorem xj(l:List (El f))(x:El f):elL (l++[x])=elL l++[pL x]:=by simp[elL]
namespace XHd
def xtr:=zzi @Int.cast_ofNat_Int (zzi @fv.eq_1 (zzi @fvf.eq_1 (zzi @fvC.eq_1 (zzi @cdC.eq_1 (zzi @nI (zzi @ea (zzi @jB @kx)))))))
end XHd
open XHd
theorem PN{g:El f}(hlo:lo<=H.length)(hg:Gn (OkC.ok (f:=f)) g)(r b:Nat)(hr:r<=100000000)(hb:b<=100000000):Ev cp lo 111 [cdV f r b] H (fun v H'=>Ext H H'/\SlE H' v (tab r (fun i=>pw g (b+i)))):=by
 unfold cdV;refine stG rfl rfl ?_;unfold Km;simp only[kB,aD];refine aA ?_;refine aT ?_;refine aC (Aa hg) ?_;rintro v H1 ⟨hx1,rfl⟩;have g0:H1.get H.length=some _:=hx1.get aN;have hx1:=hx1.of_app;refine aA ?_;refine aT ?_;refine aC (PQ g b byO) ?_;rintro v H2 ⟨hx2,rfl⟩;have g0:=hx2.get g0;have hx2:=hx1.trans hx2;have hl2:=Heap.get_lt g0;refine aA ?_;refine aS (fun i S H'=>Ext H H'/\H'.get H.length=some (cdC f r b)/\∃vd bd,H.length<bd/\Own lo 1 H' vd bd (elL (tab i (fun k=>pw g (b+k))))/\∃(z:Nat->Value),S=[z 0,.pointer (some ⟨H.length,0,none⟩),.slice none 0 0,.int .i64 (g.val:Nat),vd,.int .i64 ((pw g (b+i)).val:Nat),.int .i64 (i:Nat),z 7,z 8,z 9,z 10,z 11,z 12]) r ?_ ?_ ?_ ?_
 ·exact⟨hx2,g0,_,H2.length,byO,Own.nil (by have:=hx2.1;omega),aH rfl⟩
 ·rintro i S H' hi ⟨hx,f0,vd,bd,hbd,hown,z,rfl⟩
  exact⟨_,aN,by simp⟩
 ·clear g0 hx2 hx1 hl2
  rintro i S H1 hi ⟨hx1,f0,vd,bd,hbd,hown,z,rfl⟩;have hl1:=hx1.1;have hml:=bp i (fun k=>pw g (b+k));refine aA ?_;refine aT ?_;refine di (c:=[pL (pw g (b+i))]) (hown.mono (Ext.app _ _)) (by simp;omega) byO byO (by rw[ea,hml];omega) aF (by simp) rfl rfl ?_;rintro v' H3 hown3 hk hl3;have hE:=Ext.app H1 [some [Value.int .i64 ((pw g (b+i)).val:Nat)]];have hx3:=hk.ext (hx1.trans hE) byO;have f0:=hk.get (hE.get f0) byO;simp only[as₀,ak₀,an₀]at hown3;have hl3:=hx3.1;clear hml;refine aA ?_;refine aT ?_;refine aC (pb (pw g (b+i)) g) ?_;rintro v H4 ⟨hx4,rfl⟩;have f0:=hx4.get f0;have hown4:=hown3.mono hx4;have hx4:=hx3.trans hx4;refine aA ?_;exact⟨hx4,f0,_,H1.length+(0+1),byO,by rw[yx,xj];exact hown4,aH ncM⟩
 ·rintro S H1 ⟨hx1,f0,vd,bd,hbd,hown,z,rfl⟩
  refine aA ?_;refine aK ?_;exact⟨hx1,Sl.ofOwn hown⟩
end
open Go.Abs Go.RS
section
variable {f:FD}[OkC f]
namespace XHe
def xtr:=zzi @Int.cast_ofNat_Int (zzi @fv.eq_1 (zzi @fvf.eq_1 (zzi @fvC.eq_1 (zzi @cdC.eq_1 (zzi @nI (zzi @ea (zzi @jB (zzi @kx @ite_self.{1}))))))))
end XHe
end
open Go.Abs Go.RS
section
variable {f:FD}[OkC f]
theorem JR(a b:Nat):aJ (.minmax false) [.int .i64 (a:Int),.int .i64 (b:Int)] H=some (.int .i64 ((min a b:Nat):Int)):=by
 rw[Fx];congr 2;split<;>omega
theorem JQ(a b:Nat):aJ (.minmax true) [.int .i64 0,.int .i64 ((a:Int)+(b:Int)-1)] H=some (.int .i64 ((a+b-1:Nat):Int)):=by
 rw[Fw];congr 2;split<;>omega
open XHe
set_option maxHeartbeats 2000000 in
theorem Gf{vp vq:Value}{p q:List (El f)}(hlo:lo<=H.length)(hp:SlE H vp p)(hq:SlE H vq q)(hpl:p.length<=100000000)(hql:q.length<=100000000)(n:Nat)(hn:n<=100000000) :
  Ev cp lo 112 [fvf f,vp,vq,.int .i64 n] H (fun v H'=>Ext H H'/\∃b,H.length<=b/\v=.slice (some ⟨b,0,none⟩) (min n (p.length+q.length-1)) (min n (p.length+q.length-1))/\H'.get b=some (elL (tab (min n (p.length+q.length-1)) (cv (co p) (co q))))):=by
 have hp0:=hp;have hq0:=hq;obtain⟨ap,cp',rfl⟩:=hp.len;obtain⟨aq,cq,rfl⟩:=hq.len;have hmx:=fun(H:Heap)=>JQ (H:=H) p.length q.length;have hmn:=fun(H:Heap)=>JR (H:=H) n (p.length+q.length-1);have hN:min n (p.length+q.length-1)<=100000000:=byO;unfold fvf fv;refine stG rfl rfl ?_;unfold Kn;simp only[kB,aD];refine aA ?_;generalize hG:H++_=G at *;have g0:G.get H.length=some (fvC f):=by rw[<-hG];exact aF
 have g1:G.get (H.length+1)=some (elL (tab (min n (p.length+q.length-1)) (fun _=>(0:El f)))):=by rw[<-hG,bC,fJ];rfl
 have hxG:Ext H G:=by rw[<-hG];exact Ext.app _ _
 clear hG hmx hmn;generalize min n (p.length+q.length-1)=N at *;refine aS (fun i S H'=>Ext H H'/\H'.get H.length=some (fvC f)/\H'.get (H.length+1)=some (elL (tab N (rows (co p) (co q) i)))/\∃(z:Nat->Value),S=[z 0,.slice ap p.length cp',.slice aq q.length cq,z 3,.pointer (some ⟨H.length,0,none⟩),.slice none 0 0,.slice (some ⟨H.length+1,0,none⟩) N N,.int .i64 (i:Nat),z 8,z 9,z 10,z 11,z 12,z 13,z 14,z 15]) p.length ?_ ?_ ?_ ?_
 ·exact⟨hxG,g0,g1,aH rfl⟩
 ·rintro i S H' hi ⟨hx,f0,f1,z,rfl⟩
  exact⟨_,aN,by simp⟩
 ·clear g0 g1 hxG
  rintro i S H1 hi ⟨hx1,f0,f1,z,rfl⟩;obtain⟨b,o,sp,cap,xs,e,gx,hat,hxl⟩:=gV hp0 byO;cases e;have hati:=hat i hi;have hl1:=Heap.get_lt f1;have hbH:=Heap.get_lt gx;clear hat;refine aA ?_;refine aS (fun j S H'=>Ext H H'/\H'.get H.length=some (fvC f)/\H'.get (H.length+1)=some (elL (tab N (fun k=>rows (co p) (co q) i k+(if i<=k/\k<i+j then co p i*co q (k-i) else 0))))/\∃(z:Nat->Value),S=[z 0,.slice (some ⟨b,o,sp⟩) p.length cp',.slice aq q.length cq,z 3,.pointer (some ⟨H.length,0,none⟩),.slice none 0 0,.slice (some ⟨H.length+1,0,none⟩) N N,.int .i64 (i:Nat),.int .i64 (j:Nat),z 9,z 10,z 11,z 12,z 13,z 14,z 15]) (min q.length (N-i)) ?_ ?_ ?_ ?_
  ·refine⟨hx1,f0,?_,aH rfl⟩
   rw[f1];congr 2;refine bM fun k _=>?_;rw[if_neg byO,add_zero]
  ·rintro j S H' hj ⟨hx,f0,f1,z,rfl⟩
   exact⟨_,aN,by simp;omega⟩
  ·clear f0 f1 hl1 hx1
   rintro j S H1 hj ⟨hx1,f0,f1,z,rfl⟩;obtain⟨b',o',sp',cap',ys,e',gy,hay,hyl⟩:=gV hq0 byO;cases e';have gy:=hx1.get gy;have gx:=hx1.get gx;have hayj:=hay j byO;have hget:(tab N (fun k=>rows (co p) (co q) i k+(if i<=k/\k<i+j then co p i*co q (k-i) else 0))).getD (i+j) 0=rows (co p) (co q) i (i+j):=by
    rw[ll byO,if_neg byO,add_zero]
   have hset:(tab N (fun k=>rows (co p) (co q) i k+(if i<=k/\k<i+j then co p i*co q (k-i) else 0))).set (i+j) (rows (co p) (co q) i (i+j)+co p i*co q j)=tab N (fun k=>rows (co p) (co q) i k+(if i<=k/\k<i+(j+1) then co p i*co q (k-i) else 0)):=by
    rw[j6];refine bM fun k hk=>?_;by_cases e:k=i+j
    ·rw[if_pos e,if_pos byO,e,show i+j-i=j by omega]
    ·rw[if_neg e]
     by_cases h2:i<=k/\k<i+j
     ·rw[if_pos h2,if_pos byO]
     ·rw[if_neg h2,if_neg byO]
   have hlen2:(tab N (fun k=>rows (co p) (co q) i k+(if i<=k/\k<i+j then co p i*co q (k-i) else 0))).length<=N/\N<=(tab N (fun k=>rows (co p) (co q) i k+(if i<=k/\k<i+j then co p i*co q (k-i) else 0))).length:=by rw[bp];omega
   generalize tab N (fun k=>rows (co p) (co q) i k+(if i<=k/\k<i+j then co p i*co q (k-i) else 0))=T at *;have hin:((i:Int)+(j:Int))=((i+j:Nat):Int):=byO;have hl1:=Heap.get_lt f1;clear hay;refine aA ?_;refine aT ?_;refine bS (pb (co p i) (co q j)) ?_;rintro v H2 ⟨hx2,rfl⟩;have f0:=(hx2).get f0;have f1:=(hx2).get f1;have hx2:=hx1.trans hx2;refine bF ?_;refine aC (MF (rows (co p) (co q) i (i+j)) (co p i*co q j)) ?_;rintro v H3 ⟨hx3,rfl⟩;have f0:=(hx3).get f0;have f1:=(hx3).get f1;have hx3:=hx2.trans hx3;have hl3:=Heap.get_lt f1;clear hget;refine aA ?_;exact⟨hx3.set (by omega),by simp(disch:=try exact dO)only[evB,xtr,Nat.reduceAdd,Nat.reduceBEq,Int.reduceToNat, *],by rw[aG (by omega)],aH ncM⟩
  ·clear f0 f1 hl1 hx1
   rintro S H1 ⟨hx1,f0,f1,z,rfl⟩;refine aA ?_;refine⟨hx1,f0,?_,aH ncM⟩;rw[f1];congr 2;refine bM fun k hk=>?_;rw[D7];congr 1;by_cases h1:i<=k
   ·rw[oy _ h1]
    by_cases h2:k<i+min q.length (N-i)
    ·rw[if_pos ⟨h1,h2⟩]
    ·rw[if_neg byO,iL (l:=q) byO,mul_zero]
   ·rw[if_neg byO,sw _ byO,mul_zero]
 ·rintro S H1 ⟨hx1,f0,f1,z,rfl⟩
  refine aA ?_;refine aK ?_;refine⟨hx1,H.length+1,byO,rfl,?_⟩;rw[f1];congr 2;exact bM fun k hk=>KF (fun i hi=>iL hi) k
theorem pB(x:El f):(0:El f)-x=-x:=zero_add _
theorem zx{g:El f}(hlo:lo<=H.length)(hg:Gn (OkC.ok (f:=f)) g)(r b:Nat)(hr:r<=10000000)(hb:b<=10000000):Ev cp lo 66 [cdV f r b] H (fun v H'=>Ext H H'/\SlE H' v (lC (fun i=>pw g (b+i)) r)):=by
 unfold cdV;refine stG rfl rfl ?_;unfold Q6;simp only[kB,aD];refine aA ?_;generalize hG:H++_=G at *;have g0:G.get H.length=some (cdC f r b):=by rw[<-hG];exact aF
 have g1:G.get (H.length+1)=some (elL (lC (fun i=>pw g (b+i)) 0)):=by rw[<-hG,bC];rfl
 have hxG:Ext H G:=by rw[<-hG];exact Ext.app _ _
 clear hG;have hl0:=hxG.1;refine aT ?_;refine aC (PN byO hg r b byO byO) ?_;rintro v H1 ⟨hx1,hroots⟩;have g0:=(hx1).get g0;have g1:=(hx1).get g1;have hx1:=hxG.trans hx1;have hr0:=hroots;have hrl:=bp r (fun i=>pw g (b+i));obtain⟨ar,cr,rfl⟩:=hroots.len;rw[hrl];have hl1:=Heap.get_lt g0;refine aA ?_;refine aS (fun i S H'=>Ext H1 H'/\∃bb,H'.get bb=some (elL (lC (fun i=>pw g (b+i)) i))/\∃(z:Nat->Value),S=[z 0,.pointer (some ⟨H.length,0,none⟩),.slice none 0 0,.slice (some ⟨bb,0,none⟩) (i+1) (i+1),.slice ar r cr,.int .i64 (i:Nat),z 6,z 7,z 8,z 9,z 10,z 11,z 12,z 13]) r ?_ ?_ ?_ ?_
 ·exact⟨Ext.refl _,H.length+1,g1,aH rfl⟩
 ·rintro i S H' hi ⟨hx,bb,fb,z,rfl⟩
  exact⟨_,aN,by simp⟩
 ·clear g1
  rintro i S H2 hi ⟨hx2,bb,fb,z,rfl⟩;have hl2:=hx2.1;obtain⟨b',o,sp,cap,xs,e,gx,hat,hxl⟩:=gV hr0 (by rw[hrl];omega);cases e;rw[hrl]at hat hxl;have gx:=hx2.get gx;have f0:=hx2.get g0;have hati:=hat i hi;have hco:co (tab r (fun i=>pw g (b+i))) i=pw g (b+i):=by rw[iB,if_pos hi]
  rw[hco]at hati;have hi1:(((i+1:Nat):Int)+1)=((i+2:Nat):Int):=byO;clear hat;refine aA ?_;refine aT ?_;refine bS (A8 (0:El f) (pw g (b+i))) ?_;rintro v H3 ⟨hx3,rfl⟩;rw[pB];have fb:=hx3.get fb;have hx3:=hx2.trans hx3;have hl3:=hx3.1;refine aA ?_;refine aT ?_;have hgl:=jv (fun i=>pw g (b+i)) i;have hs1:=ei (sp:=none) fb hgl;have hs2:SlE (H3++[some [Value.int .i64 ((-pw g (b+i)).val:Nat),Value.int .i64 1]]) (.slice (some ⟨H3.length,0,none⟩) 2 2) [-pw g (b+i),(1:El f)]:=ei (l:=[-pw g (b+i),(1:El f)]) aF rfl;refine aC (Gf (by simp;omega) (hs1.mono (Ext.app _ _)) hs2 (by rw[hgl];omega) (by simp) (i+2) byO) ?_;rintro v H4 ⟨hx4,b4,hb4,rfl,f4⟩;have hmin:min (i+2) ((lC (fun i=>pw g (b+i)) i).length+[-pw g (b+i),(1:El f)].length-1)=i+2:=by rw[hgl];simp
  rw[hmin]at f4 ⊢;have hgen:tab (i+2) (cv (co (lC (fun i=>pw g (b+i)) i)) (co [-pw g (b+i),(1:El f)]))=lC (fun i=>pw g (b+i)) (i+1):=by
   rw[ny,OY];rfl
  rw[hgen]at f4;have hx4:=hx3.trans hx4.of_app;clear hi1;refine aA ?_;exact⟨hx4,b4,f4,aH ncM⟩
 ·rintro S H2 ⟨hx2,bb,fb,z,rfl⟩
  refine aA ?_;refine aK ?_;refine⟨hx1.trans hx2,?_⟩;exact ei (sp:=none) fb (jv _ _)
end
section
variable {f:FD}[OkC f]
open XArR
set_option maxHeartbeats 1000000 in
theorem uZ{g:El f}(hlo:lo<=H.length)(hg:Gn (OkC.ok (f:=f)) g):Ev cp lo 106 [fvf f] H (fun v H'=>Ext H H'/\∃be bl,H.length<=be/\H.length<=bl/\v=arV f be bl/\ArH H' g be bl):=by
 have h2:=qle (f:=f);have hinj:=wR (oN hg) (iD hg);unfold fvf fv;refine stG rfl rfl ?_;unfold Kh;simp only[kB,aD];refine aA ?_;refine aT ?_;refine aC (nm (OkC.ok (f:=f)) hg) ?_;rintro v H1 ⟨hx1,rfl⟩;have g0:H1.get H.length=some _:=hx1.get aN;have g1:H1.get (H.length+1)=some _:=hx1.get aN;have hx1:=hx1.of_app;have hl1:=Heap.get_lt g1;have hq1:((f.q:Int)-1).toNat=f.q-1:=byO;refine aA ?_;generalize hM:H1.length=M at *;refine aS (fun i S H'=>Ext H H'/\M+2<H'.length/\H'.get H.length=some [.int .i64 (FD.ch f:Nat),.int .i64 (f.q:Nat),.int .i64 (f.poly:Nat)]/\H'.get (H.length+1)=some [.int .i64 0,.int .i64 0,.slice none 0 0,.slice none 0 0]/\H'.get (M+2)=some (arC f M (M+1)) /\
  ∃E L:List Int,H'.get M=some (aW E)/\H'.get (M+1)=some (aW L)/\E.length=f.q-1/\L.length=f.q/\(∀k,k<i->E.getD k 0=((pw g k).val:Nat))/\(∀k,k<i->L.getD (pw g k).val 0=(k:Nat))/\∃(z:Nat->Value),S=[z 0,.pointer (some ⟨H.length,0,none⟩),.pointer (some ⟨H.length+1,0,none⟩),.int .i64 (g.val:Nat),.pointer (some ⟨M+2,0,none⟩),.int .i64 ((pw g i).val:Nat),z 6,z 7,z 8,z 9,z 10,z 11,z 12,z 13,.int .i64 ((f.q-1:Nat):Int),.int .i64 (i:Nat),z 16,z 17,z 18,z 19,z 20,z 21]) (f.q-1) ?_ ?_ ?_ ?_
 ·refine⟨hx1.trans (Ext.app _ _),by simp;omega,by simp(disch:=try exact dO)only[evB,xtr,Nat.reduceAdd,Nat.reduceBEq,Int.reduceToNat, *],by simp(disch:=try exact dO)only[evB,xtr,Nat.reduceAdd,Nat.reduceBEq,Int.reduceToNat, *],?_,List.replicate (f.q-1) 0,List.replicate f.q 0,?_,?_,by simp,by simp,by omega,by omega,aH rfl⟩
  ·rw[<-hM,bC];rfl
  ·rw[<-hM,aF]
  ·rw[<-hM,bC];rfl
 ·rintro i S H' hi ⟨hx,hl,f0,f1,f2,E,L,fE,fL,hE,hL,hEa,hLa,z,rfl⟩
  exact⟨_,aN,by simp⟩
 ·rintro i S H2 hi ⟨hx,hl,f0,f1,f2,E,L,fE,fL,hE,hL,hEa,hLa,z,rfl⟩
  unfold arC at f2;have hxv:=(pw g i).lt;have hE2:E.length<=f.q-1/\f.q-1<=E.length:=byO;have hL2:L.length<=f.q/\f.q<=L.length:=byO;have hnat:((i:Nat):Int)<((f.q-1:Nat):Int):=byO;clear hE hL;refine aA ?_;refine At aN aN (.inr (by simp[ae])) ?_;refine bF ?_;have hEx:Ext H (List.set (List.set H2 M (some (aW (E.set i ↑(pw g i).val)))) (M+1) (some (aW (L.set (pw g i).val ↑i)))):=(hx.set byO).set byO;refine aC (EJ (f:=f) (OkC.ok (f:=f)) hxv g.lt) ?_;rintro v H3 ⟨hx3,rfl⟩;have hmul:eH f (pw g i).val g.val=(pw g (i+1)).val:=rfl;have f0:=hx3.get (i:=H.length) (by rw[aI byO,aI byO];exact f0);have f1:=hx3.get (i:=H.length+1) (by rw[aI byO,aI byO];exact f1);have f2:=hx3.get (i:=M+2) (by rw[aI byO,aI byO];exact f2);have fE:=hx3.get (i:=M) (by rw[aI byO,aG byO]);have fL:=hx3.get (i:=M+1) (by rw[aG (by simp;omega)]);have hl3:=Heap.get_lt f2;have hx3:=hEx.trans hx3;refine aA ?_;refine⟨hx3,hl3,f0,f1,f2,_,_,fE,fL,by simp;omega,by simp;omega,fun k hk=>?_,fun k hk=>?_,aH ncM⟩
  ·by_cases e:k=i
   ·subst e;rw[gG byO]
   ·rw[iU (fun h=>e h.symm)];exact hEa k byO
  ·by_cases e:k=i
   ·subst e;rw[gG byO]
   ·rw[iU (fun h=>e (hinj k i byO hi (El.ext h.symm)))];exact hLa k byO
 ·rintro S H2 ⟨hx,hl,f0,f1,f2,E,L,fE,fL,hE,hL,hEa,hLa,z,rfl⟩
  unfold arC at f2;refine aA ?_;refine aK ?_;exact⟨hx.set byO,M,M+1,byO,byO,rfl,⟨E,by rw[aI byO];exact fE,hE,hEa⟩,⟨L,by rw[aI byO];exact fL,hL,hLa⟩⟩
theorem TF{be bl:Nat}(x y:El f):Ev cp lo 154 [arV f be bl,.int .i64 (x.val:Nat),.int .i64 (y.val:Nat)] H (fun v H'=>Ext H H'/\v=.int .i64 ((x-y).val:Nat)):=by
 have h2:=qle (f:=f);have hx:=x.lt;have hy:=y.lt;have hs:(x-y).val=qW f x.val y.val:=(vV (OkC.ok (f:=f)) x.lt y.lt).symm;have hc:=vK (OkC.ok (f:=f));rw[hs];clear hs;have e1:=ig (a:=x.val) (b:=y.val) byO byO;have e2:=CN h2.1 hx hy;unfold arV;refine stG rfl rfl ?_;unfold LL;simp only[kB,aD];refine aA ?_;refine aP ?_ ?_<;>intro h
 ·have hp:f.poly≠0:=hc.1 (by simp at h;omega)
  clear h;refine aA ?_;refine aK ?_;refine⟨Ext.app _ _,?_⟩;unfold qW;rw[if_neg hp];rfl
 ·have hp:f.poly=0:=by
   apply Decidable.byContradiction;intro h0;have:=hc.2 h0;simp at h;omega
  clear h;refine aA ?_;refine aK ?_;refine⟨Ext.app _ _,?_⟩;unfold qW;rw[if_pos hp];rfl
theorem Rf{be bl:Nat}{g:El f}(hg:Gn (OkC.ok (f:=f)) g)(ha:ArH H g be bl)(x y:El f):Ev cp lo 155 [arV f be bl,.int .i64 (x.val:Nat),.int .i64 (y.val:Nat)] H (fun v H'=>Ext H H'/\v=.int .i64 ((x*y).val:Nat)):=by
 have h2:=qle (f:=f);have hx:=x.lt;have hy:=y.lt;have hbl:=ha.lt;obtain⟨⟨E,gE,hE,hEa⟩,⟨L,gL,hL,hLa⟩⟩:=ha;unfold arV;refine stG rfl rfl ?_;unfold LM;simp only[kB,aD];refine aA ?_;refine aP ?_ ?_<;>intro h
 ·have hz:x*y=0:=by
   have:x.val=0\/y.val=0:=by simp at h;omega
   rcases this with h1|h1
   ·rw[jV h1,zero_mul]
   ·rw[jV h1,mul_zero]
  clear h;refine aA ?_;refine aK ?_;exact⟨Ext.app _ _,by rw[hz];rfl⟩
 have hnz:¬ x.val=0/\¬ y.val=0:=by simp at h;omega
 clear h;obtain⟨i,hi,rfl⟩:=pow_sur (oN hg) (iD hg) (x:=x) (fun e=>hnz.1 (by rw[e];rfl));obtain⟨j,hj,rfl⟩:=pow_sur (oN hg) (iD hg) (x:=y) (fun e=>hnz.2 (by rw[e];rfl));have li:=hLa i hi;have lj:=hLa j hj;have hml:(i+j)%(f.q-1)<f.q-1:=Nat.mod_lt _ byO;have hev:=hEa _ hml;have hmod:((i:Int)+(j:Int)).tmod ((f.q:Int)-1)=(((i+j)%(f.q-1):Nat):Int):=by
  rw[Int.tmod_eq_emod_of_nonneg byO,show((i:Int)+j)=((i+j:Nat):Int) by omega,show((f.q:Int)-1)=((f.q-1:Nat):Int) by omega];rfl
 have hE2:E.length<=f.q-1/\f.q-1<=E.length:=byO;have hL2:L.length<=f.q/\f.q<=L.length:=byO;clear hE hL hEa hLa hnz;rw[<-J1 (iD hg) (i:=i) (j:=j)];refine aA ?_;refine aK ?_;exact⟨Ext.app _ _,rfl⟩
theorem Tu{be bl:Nat}{g:El f}(hg:Gn (OkC.ok (f:=f)) g)(ha:ArH H g be bl)(x y:El f)(hy0:y≠0):Ev cp lo 153 [arV f be bl,.int .i64 (x.val:Nat),.int .i64 (y.val:Nat)] H (fun v H'=>Ext H H'/\v=.int .i64 ((x*inv y).val:Nat)):=by
 have h2:=qle (f:=f);have hx:=x.lt;have hy:=y.lt;have hbl:=ha.lt;obtain⟨⟨E,gE,hE,hEa⟩,⟨L,gL,hL,hLa⟩⟩:=ha;unfold arV;refine stG rfl rfl ?_;unfold LK;simp only[kB,aD];refine aA ?_;refine aP ?_ ?_<;>intro h
 ·have hz:x*inv y=0:=by
   have:x.val=0:=by simp at h;omega
   rw[jV this,zero_mul]
  clear h;refine aA ?_;refine aK ?_;exact⟨Ext.app _ _,by rw[hz];rfl⟩
 have hnz:¬ x.val=0:=by simp at h;omega
 clear h;obtain⟨i,hi,rfl⟩:=pow_sur (oN hg) (iD hg) (x:=x) (fun e=>hnz (by rw[e];rfl));obtain⟨j,hj,rfl⟩:=pow_sur (oN hg) (iD hg) (x:=y) hy0;have li:=hLa i hi;have lj:=hLa j hj;have hml:(i+(f.q-1)-j)%(f.q-1)<f.q-1:=Nat.mod_lt _ byO;have hev:=hEa _ hml;have hmod:((i:Int)-(j:Int)+(f.q:Int)-1).tmod ((f.q:Int)-1)=(((i+(f.q-1)-j)%(f.q-1):Nat):Int):=by
  rw[Int.tmod_eq_emod_of_nonneg byO,show((i:Int)-j+f.q-1)=((i+(f.q-1)-j:Nat):Int) by omega,show((f.q:Int)-1)=((f.q-1:Nat):Int) by omega];rfl
 have hE2:E.length<=f.q-1/\f.q-1<=E.length:=byO;have hL2:L.length<=f.q/\f.q<=L.length:=byO;clear hE hL hEa hLa hnz;rw[<-N0 (iD hg) hi hj];refine aA ?_;refine aK ?_;exact⟨Ext.app _ _,rfl⟩
end
end Go.Proofs.YtmnlgdpdgjbfgaaGreat
