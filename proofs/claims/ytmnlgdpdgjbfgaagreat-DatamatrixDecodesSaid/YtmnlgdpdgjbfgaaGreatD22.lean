/- Lemmas. -/
import Derived.Test.YtmnlgdpdgjbfgaaGreatD20
import Derived.Test.YtmnlgdpdgjbfgaaGreatD21
set_option linter.all false
namespace Go.Proofs.YtmnlgdpdgjbfgaaGreat
open Go.Abs Go.RS
variable{H:Heap}{lo:Nat}
set_option maxRecDepth 20000
theorem Am{x:Nat}(h:x≠0):bh x=bh (x/2)+1:=by
 by_cases h1:x=1
 ·subst h1;rfl
 have:=nM (k:=1) (x:=x) byO;simp at this;omega
open XGd
theorem nY{p:Int}(hp:p<=9223372036854775807):Ev cp lo 156 [.int .i64 p] H (fun v H'=>H'=H/\v=.int .i64 ((bh p.toNat:Nat)-1)):=by
 by_cases hneg:p<=0
 ·refine stG rfl rfl ?_;unfold Bq;simp only[kB,aB]
  refine aC ?_;refine aY (fun m S H'=>H=H'/\S=[.int .i64 p,.int .i64 0,.int .i64 (-1)]) 0 ⟨rfl,rfl⟩ ?_;rintro m S H' ⟨rfl,rfl⟩;(try simp only[aB]);refine aS ?_ ?_<;>intro h
  ·simp at h;omega
  clear h;refine aC ?_;refine aT ?_;refine⟨rfl,?_⟩;rw[show p.toNat=0 by omega,oC];rfl
 obtain⟨n,rfl⟩:=Int.eq_ofNat_of_zero_le (show 0<=p by omega);have hn:=eA (show n<2^63 by omega);rw[Int.toNat_natCast];refine stG rfl rfl ?_;unfold Bq;simp only[kB,aB];refine aC ?_;refine aY (fun m S H'=>H=H'/\∃x:Nat,x<=n/\m=x/\bh x<=bh n/\S=[.int .i64 x,.int .i64 0,.int .i64 ((bh n:Nat)-1-(bh x:Nat))]) n ?_ ?_
 ·exact⟨rfl,n,Nat.le_refl _,rfl,Nat.le_refl _,by rw[show((bh n:Nat):Int)-1-(bh n:Nat)=-1 by omega]⟩
 rintro m S H' ⟨rfl,x,hx,rfl,hlx,rfl⟩;(try simp only[aB]);refine aS ?_ ?_<;>intro h
 ·have hm:m≠0:=by simp at h;omega
  clear h;have h1:=Am hm;have e1:(m:Int).tdiv 2=((m/2:Nat):Int):=by rw[Int.tdiv_eq_ediv_of_nonneg byO];rfl
  refine aC ?_;simp only[ak];exact⟨m/2,byO,by trivial,m/2,byO,rfl,byO,by rw[show((bh n:Nat):Int)-1-(bh (m/2):Nat)=(bh n:Nat)-1-(bh (m/2)+1:Nat)+1 by omega]⟩
 ·have hm:m=0:=by simp at h;omega
  clear h;subst hm;rw[oC];refine aC ?_;refine aT ?_;exact⟨rfl,by simp[aM]⟩
theorem pJ{x k:Nat}:x/2^k%2=1↔x.testBit k=true:=by
 rw[Nat.testBit_eq_decide_div_mod_eq];simp
theorem At{x k:Nat}(h:x<2^(k+1))(hb:¬ x/2^k%2=1):x<2^k:=by
 apply Decidable.byContradiction;intro hc;have h0:x≠0:=by have:0<2^k:=Nat.pow_pos byO;omega
 have hl:=ko byO h;have:=jH h0;rw[hl]at this;exact hb (pJ.2 this)
theorem JY{p q:Nat}(hp:p<2^62)(hq:q<2^62)(hq0:q≠0):Ev cp lo 113 [.int .i64 p,.int .i64 q] H (fun v H'=>H'=H/\v=.int .i64 (rm p q:Nat)):=by
 have hlq:=dX hq0;have hlq2:=eA hq;have hlp2:=eA hp;have hlq':bh q<=q.log2+1/\q.log2+1<=bh q:=byO;have hpl:p<2^bh p:=by
  by_cases h:p=0
  ·rw[h];exact Nat.pow_pos byO
  ·rw[dX h];exact cX p
 clear hlq;refine stG rfl rfl ?_;unfold Ht;simp only[kB,aB];refine aC ?_;refine aQ ?_;refine aA (nY (p:=(q:Int)) byO) ?_;rintro v H1 ⟨rfl,rfl⟩;rw[Int.toNat_natCast];refine aC ?_;refine aQ ?_;refine aA (nY (p:=(p:Int)) byO) ?_;rintro v H2 ⟨rfl,rfl⟩;rw[Int.toNat_natCast];refine aC ?_;refine aY (fun m S H'=>H2=H'/\∃(x j:Nat) (z5 z6:Value),x<2^62/\j<=62/\x<2^j/\m=j/\rm x q=rm p q/\S=[.int .i64 (x:Nat),.int .i64 (q:Nat),.int .i64 0,.int .i64 ((bh q:Nat)-1),.int .i64 ((j:Nat)-1),z5,z6]) (bh p) ?_ ?_
 ·exact⟨rfl,p,bh p,_,_,hp,hlp2,hpl,rfl,rfl,rfl⟩
 rintro m S H' ⟨rfl,x,j,z5,z6,hx,hj,hxj,rfl,hrm,rfl⟩;(try simp only[aB]);refine aS ?_ ?_<;>intro h
 ·have hc:bh q<=m:=by simp at h;omega
  clear h;obtain⟨k,rfl⟩:∃k,m=k+1:=⟨m-1,byO⟩;have e0:(((k+1:Nat):Int)-1)=(k:Int):=byO;have e1:(k:Int)-((bh q:Nat)-1)=((k-q.log2:Nat):Int):=byO;have a1:=lh x k .i64 (by show k<=64;omega);have a2:=p3 (b:=x/2^k) (by
   have:=Nat.div_le_self x (2^k);omega)
  have hsl:q <<< (k-q.log2)<2^(q.log2+1+(k-q.log2)):=E7 (cX q);have hpw:2^(q.log2+1+(k-q.log2))<=2^62:=Nat.pow_le_pow_right byO byO;have hsl2:=hsl;rw[Nat.shiftLeft_eq]at hsl2;have a3:=kC (a:=q) (k:=k-q.log2) byO byO;have a4:=iI (a:=x) (b:=q <<< (k-q.log2)) byO byO;(try simp only[aB]);refine aS ?_ ?_<;>intro h
  ·have hb:x/2^k%2=1:=by have h2:=of_decide_eq_true h;generalize x/2^k%2=z at *;omega
   clear h;have hx0:x≠0:=by rintro rfl;simp at hb
   have hge:2^k<=x:=Nat.ge_two_pow_of_testBit (pJ.1 hb);have hxl:=ko hge hxj;have hred:=yI hq0 hx0 byO;rw[hxl]at hred;clear hxl;refine aC ?_;simp only[ak];refine⟨k,byO,by trivial,x ^^^ q <<< (k-q.log2),k,_,_,by
    have:2^k<=2^62:=Nat.pow_le_pow_right byO byO;omega,byO,hred,rfl,by rw[<-hrm,<-fu,uc hq0],rfl⟩
  ·have hb:¬ x/2^k%2=1:=by have h2:=of_decide_eq_false h;generalize x/2^k%2=z at *;omega
   clear h;refine aC ?_;simp only[ak];exact⟨k,byO,by trivial,x,k,_,_,hx,byO,At hxj hb,rfl,hrm,rfl⟩
 ·have hc:m<bh q:=by simp at h;omega
  clear h;have hmr:rm x q=x:=iF hq0 (bc₀ hxj (Nat.pow_le_pow_right byO byO));rw[hmr]at hrm;refine aC ?_;refine aT ?_;exact⟨rfl,by rw[<-hrm];rfl⟩
theorem MN{n:Nat}(hn:n<=4096)(hn2:2<=n):Ev cp lo 158 [.int .i64 n] H (fun v H'=>H'=H/\∃b,v=.bool b/\(b=true↔PrN n)):=by
 refine stG rfl rfl ?_;unfold I4;simp only[kB,aB];refine aC ?_;refine aY (fun m S H'=>∃(d:Nat),2<=d/\d<=n+2/\m=n+3-d/\H=H'/\(∀e,2<=e->e<d->e*e<=n->n%e≠0)/\S=[.int .i64 n,.bool false,.int .i64 d]) (n+1) ?_ ?_
 ·exact⟨2,byO,byO,byO,rfl,fun e h1 h2=>byO,rfl⟩
 rintro m S H' ⟨d,h2,hle,rfl,rfl,hno,rfl⟩;have hm:=uJ (a:=(d:Int)) (b:=(d:Int)) (A:=5000) (B:=5000) byO byO byO byO byO;(try simp only[aB]);refine aS ?_ ?_<;>intro h
 ·have hc:d*d<=n:=by simp at h;omega
  clear h;have hdn:d<=n:=Nat.le_trans (Nat.le_mul_of_pos_left d byO) hc;have hmod:(n:Int).tmod (d:Int)=((n%d:Nat):Int):=by rw[Int.tmod_eq_emod_of_nonneg byO];rfl
  (try simp only[aB]);refine aS ?_ ?_<;>intro h
  ·have hz:n%d=0:=by simp at h;omega
   clear h hmod;refine aC ?_;refine aT ?_;exact⟨rfl,false,rfl,by simp;exact fun hp=>hp d h2 hc hz⟩
  ·have hz:n%d≠0:=by simp at h;omega
   clear h hmod;refine aC ?_;simp only[ak];refine⟨n+3-(d+1),byO,d+1,byO,byO,rfl,by trivial,fun e h1 h3=>?_,ncM⟩;by_cases e2:e=d
   ·subst e2;exact fun _=>hz
   ·exact hno e h1 byO
 ·have hc:¬ d*d<=n:=by simp at h;omega
  clear h;refine aC ?_;refine aT ?_;refine⟨rfl,true,by simp[aM];omega,?_⟩;simp only[true_iff];intro e h1 h3;refine hno e h1 ?_ h3;apply Decidable.byContradiction;intro hge;exact hc (Nat.le_trans (Nat.mul_le_mul (show d<=e by omega) (show d<=e by omega)) h3)
theorem Rl{p:Int}{d:Nat}(hp:p<2^13)(hd1:1<=d)(hd:d<=12):Ev cp lo 157 [.int .i64 p,.int .i64 d] H (fun v H'=>H'=H/\∃b,v=.bool b/\(b=true↔0<=p/\bh p.toNat=d+1/\Irr p.toNat)):=by
 refine stG rfl rfl ?_;unfold I3;simp only[kB,aB];refine aC ?_;by_cases hneg:p<0
 ·refine bP aW gZ aW (fun h=>by simp[hneg]at h) (fun h=>?_)
  clear h;(try simp only[aB]);refine aS ?_ ?_<;>intro h
  ·clear h
   refine aC ?_;refine aT ?_;exact⟨rfl,false,rfl,by simp;omega⟩
  ·simp at h
 obtain⟨n,rfl⟩:=Int.eq_ofNat_of_zero_le (show 0<=p by omega);rw[Int.toNat_natCast];have hn:=eA (show n<2^63 by omega);refine bP aW gZ aW (fun h=>⟨_,aW,?_⟩) (fun h=>by simp[hneg]at h);clear h;refine aA (nY (p:=(n:Int)) byO) ?_;rintro v H1 ⟨rfl,rfl⟩;rw[Int.toNat_natCast];(try simp only[aB]);refine aS ?_ ?_<;>intro h
 ·have hc:bh n≠d+1:=by simp at h;omega
  clear h;refine aC ?_;refine aT ?_;exact⟨rfl,false,rfl,by simp;intro h1;exact absurd h1 hc⟩
 have hc:bh n=d+1:=by simp at h;omega
 clear h;have hn0:n≠0:=by rintro rfl;rw[oC]at hc;omega
 have hlog:n.log2=d:=by rw[dX hn0]at hc;omega
 have hn2:2<=n:=by
  have:=fe hn0;rw[hlog]at this;have h2:2^1<=2^d:=Nat.pow_le_pow_right byO hd1;omega
 have hc':bh n<=d+1/\d+1<=bh n:=byO;have hlog':n.log2<=d/\d<=n.log2:=byO;clear hc hlog;refine aC ?_;refine aY (fun m S H'=>∃(q:Nat) (z4 z5 z6 z7:Value),2<=q/\q<=n+1/\m=n+2-q/\H1=H'/\(∀t,2<=t->t<q->2*t.log2<=n.log2->¬ ∃m,n=cl t m)/\S=[.int .i64 (n:Nat),.int .i64 (d:Nat),.bool false,.int .i64 (q:Nat),z4,z5,z6,z7]) n ?_ ?_
 ·exact⟨2,_,_,_,_,byO,byO,byO,rfl,fun t h1 h2=>byO,rfl⟩
 rintro m S H' ⟨q,z4,z5,z6,z7,hq2,hqp,rfl,rfl,hno,rfl⟩;have hq0:q≠0:=byO;have hlq:=dX hq0;have hlq3:=eA (show q<2^63 by omega);have hlq':bh q<=q.log2+1/\q.log2+1<=bh q:=byO;clear hlq;(try simp only[aB]);refine aQ ?_;refine aA (nY (p:=(q:Int)) byO) ?_;rintro v H2 ⟨rfl,rfl⟩;rw[Int.toNat_natCast];(try simp only[aB]);refine aS ?_ ?_<;>intro h
 ·have hc:2*q.log2<=n.log2:=by simp at h;omega
  clear h;have hlt:q<n:=by
   have h1:=nP hq2;have h3:=cX q;have h4:2^(q.log2+1)<=2^n.log2:=Nat.pow_le_pow_right byO byO;have h5:=fe hn0;omega
  (try simp only[aB]);refine aQ ?_;refine aA (JY (p:=n) (q:=q) byO byO hq0) ?_;rintro v H1 ⟨rfl,rfl⟩;have hz:=zh (p:=n) hq0;(try simp only[aB]);refine aS ?_ ?_<;>intro h
  ·have hr:rm n q=0:=by simp at h;omega
   clear h;refine aC ?_;refine aT ?_;exact⟨rfl,false,rfl,by simp;exact fun _ hi=>hi q hq2 hc (hz.1 hr)⟩
  ·have hr:rm n q≠0:=by simp at h;omega
   clear h;refine aC ?_;simp only[ak];refine⟨n+2-(q+1),byO,q+1,_,_,_,_,byO,byO,rfl,by trivial,fun t h1 h3=>?_,ncM⟩;by_cases e:t=q
   ·subst e;exact fun _ hm=>hr (hz.2 hm)
   ·exact hno t h1 byO
 ·have hc:n.log2<2*q.log2:=by simp at h;omega
  clear h;refine aC ?_;refine aT ?_;refine⟨rfl,true,rfl,?_⟩;simp only[true_iff];refine⟨byO,byO,?_⟩;intro t h1 h3;refine hno t h1 ?_ h3;apply Decidable.byContradiction;intro hge;have:=wC (show q<=t by omega) hq0;omega
theorem zK{sz d:Nat}(h:bh sz=d+1):2^d<=sz/\sz<2^(d+1):=by
 have h0:sz≠0:=by rintro rfl;rw[oC]at h;omega
 rw[dX h0]at h;have h1:=fe h0;have h2:=cX sz;rw[show sz.log2=d by omega]at h1 h2;exact⟨h1,h2⟩
theorem EF{a b:Nat}(h:2^a=2^b):a=b:=by
 rcases Nat.lt_trichotomy a b with h1|h1|h1
 ·have:=Nat.pow_lt_pow_right (a:=2) byO h1;omega
 ·exact h1
 ·have:=Nat.pow_lt_pow_right (a:=2) byO h1;omega
set_option maxHeartbeats 1000000 in
theorem EU{ch sz po:Int}(hs:sz<=9223372036854775807):Ev cp lo 109 [fv ch sz po] H (fun v H'=>Ext H H'/\∃b,v=.bool b/\(b=true↔∃f,OkF ch sz po f)):=by
 unfold fv;refine stG rfl rfl ?_;unfold Ho;simp only[kB,aB];refine aC ?_;refine aS ?_ ?_<;>intro h
 ·have hch:ch=2:=by simpa using h
  clear h;subst hch;(try simp only[aB]);refine aQ ?_;refine aA (nY (p:=sz) hs) ?_;rintro v H1 ⟨rfl,rfl⟩;by_cases hd:2<=bh sz.toNat/\bh sz.toNat<=13
  ·obtain⟨d,hde⟩:∃d,bh sz.toNat=d+1:=⟨bh sz.toNat-1,byO⟩
   rw[hde]at hd ⊢;have e0:(((d+1:Nat):Int)-1)=(d:Int):=byO;rw[e0];have a1:=kC (a:=1) (k:=d) (by
    have:2^d<=2^12:=Nat.pow_le_pow_right byO byO;omega) byO
   have a2:=kC (a:=1) (k:=d+1) (by
    have:2^(d+1)<=2^13:=Nat.pow_le_pow_right byO byO;omega) byO
   rw[Nat.shiftLeft_eq,Nat.one_mul]at a1 a2;have a1:IntKind.i64.wrap (1*2^min d IntKind.i64.bits)=((2^d:Nat):Int):=a1;have a2:IntKind.i64.wrap (1*2^min (d+1) IntKind.i64.bits)=((2^(d+1):Nat):Int):=a2;have hp13:2^(d+1)<=2^13:=Nat.pow_le_pow_right byO byO;have e1:((d:Int)+1)=((d+1:Nat):Int):=byO;have n1:(1:Int)<=d:=byO;have n2:(d:Int)<=12:=byO;generalize hQ:2^d=Q at *;generalize hQ2:2^(d+1)=Q2 at *;refine aC ?_;refine bP aW gZ aW ?_ ?_<;>intro h
   ·have hcc:sz=(Q:Int)/\po<Q2:=by simp at h;omega
    refine⟨_,aW,?_⟩;refine aA (Rl (p:=po) (d:=d) byO byO byO) ?_;rintro v H3 ⟨rfl,b,rfl,hbb⟩;refine aC ?_;refine aT ?_;refine⟨Ext.app _ _,b,by simp[aM],?_⟩;rw[hbb];constructor
    ·rintro⟨hp0,hpl,hi⟩
     have hpn0:po.toNat≠0:=by intro e;rw[e,oC]at hpl;omega
     have hplog:po.toNat.log2=d:=by rw[dX hpn0]at hpl;omega
     have:=zK hpl;have h2d:2^1<=2^d:=Nat.pow_le_pow_right byO byO;refine⟨⟨Q,po.toNat⟩,.inr ⟨hpn0,by simp;omega,by simp;omega,by simp;rw[hplog,hQ],hi⟩,by simp;omega,by simp;omega,?_⟩;show(2:Int)=((if po.toNat=0 then Q else 2:Nat):Int);rw[if_neg hpn0];rfl
    ·rintro⟨f,hf,h1,h2,h3⟩
     have hf2:=hf;rcases hf with ⟨e0,e1,_⟩|⟨e0,e1,e2,e3,hi⟩
     ·unfold FD.ch at h3;rw[if_pos e0]at h3;omega
     ·have hpp:po.toNat=f.poly:=byO
      have hlog:f.poly.log2=d:=by
       have:2^f.poly.log2=2^d:=by rw[<-e3,hQ];omega
       exact EF this
      rw[hpp];exact⟨byO,by rw[dX e0,hlog],hi⟩
   ·have hcc:¬ (sz=(Q:Int)/\po<Q2):=by
     rintro⟨h1,h2⟩;simp[h1,h2,n1,n2]at h
    refine aC ?_;refine aT ?_;refine⟨Ext.app _ _,false,by simp[aM],?_⟩;simp only[ah₀,false_iff];rintro⟨f,hf,h1,h2,h3⟩;apply hcc;have hf2:=hf;rcases hf with ⟨e0,e1,_⟩|⟨e0,e1,e2,e3,hi⟩
    ·unfold FD.ch at h3;rw[if_pos e0]at h3;omega
    ·have hsz:sz.toNat=2^f.poly.log2:=byO
     have hlp:=zK hde;rw[hsz]at hlp;have k1:d<=f.poly.log2:=by
      have:2^d<2^(f.poly.log2+1):=Nat.lt_of_le_of_lt hlp.1 (Nat.pow_lt_pow_right byO byO);have:=(Nat.pow_lt_pow_iff_right (by omega:1<2)).1 this;omega
     have k2:f.poly.log2<d+1:=(Nat.pow_lt_pow_iff_right (by omega:1<2)).1 hlp.2;have hl:f.poly.log2=d:=byO;rw[hl,hQ]at e3;have:=cX f.poly;rw[hl,hQ2]at this;omega
  ·have hl2:=eA (show sz.toNat<2^63 by omega)
   have hnf:¬ ∃f,OkF 2 sz po f:=by
    rintro⟨f,hf,h1,h2,h3⟩;rcases hf with ⟨e0,e1,_⟩|⟨e0,e1,e2,e3,hi⟩
    ·unfold FD.ch at h3;rw[if_pos e0]at h3;omega
    ·apply hd
     have hsz:sz.toNat=2^f.poly.log2:=byO;have hne:2^f.poly.log2≠0:=Nat.pos_iff_ne_zero.1 (Nat.pow_pos byO);rw[hsz,dX hne,ko (Nat.le_refl _) (Nat.pow_lt_pow_right byO byO)];have:=nP e1;omega
   generalize hL:bh sz.toNat=L at *;have hT:(decide (1<=(L:Int)-1)&&decide ((L:Int)-1<=12))=false:=by
    rw[Bool.eq_false_iff];intro h;simp at h;omega
   have e1:¬ (1<=(L:Int)-1/\(L:Int)-1<=12):=byO;refine aC ?_;refine bP aW gZ aW (fun h=>by cases h) (fun h=>?_);clear h;refine aC ?_;refine aT ?_;exact⟨Ext.app _ _,false,rfl,by simpa using hnf⟩
 ·have hch:¬ ch=2:=by simpa using h
  clear h;(try simp only[aB]);refine bP aW gZ aW ?_ ?_<;>intro h
  ·have hc:ch=sz/\po=0/\3<=sz/\sz<=4096:=by simp at h;omega
   obtain⟨n,hn⟩:∃n:Nat,(n:Int)=sz:=⟨sz.toNat,byO⟩;refine⟨_,aW,?_⟩;refine aA (by rw[<-hn];exact MN (n:=n) byO byO) ?_;rintro v H1 ⟨rfl,b,rfl,hb⟩;refine aC ?_;refine aT ?_;refine⟨Ext.app _ _,b,by simp[aM],?_⟩;rw[hb,zd byO];constructor
   ·intro hp
    exact⟨⟨n,0⟩,.inl ⟨rfl,by simp;omega,by simp;omega,hp⟩,by simp;omega,by simp;omega,by simp[FD.ch];omega⟩
   ·rintro⟨f,hf,h1,h2,h3⟩
    rcases hf with ⟨e0,e1,e2,e3⟩|⟨e0,e1,_⟩
    ·have:f.q=n:=byO
     rw[<-this];exact e3
    ·exfalso;omega
  ·have hc:¬ (ch=sz/\po=0/\3<=sz/\sz<=4096):=by
    rintro⟨h1,h2,h3,h4⟩;simp[h1,h2,h3,h4]at h
   refine aC ?_;refine aT ?_;refine⟨Ext.app _ _,false,by simp[aM],?_⟩;simp only[ah₀,false_iff];rintro⟨f,hf,h1,h2,h3⟩;rcases hf with ⟨e0,e1,e2,e3⟩|⟨e0,e1,_⟩
   ·apply hc
    unfold FD.ch at h3;rw[if_pos e0]at h3;omega
   ·unfold FD.ch at h3;rw[if_neg e0]at h3;omega
section
variable {f:FD}[OkC f]
theorem zj(x y:El f):Ev cp lo 67 [fvf f,.int .i64 (x.val:Nat),.int .i64 (y.val:Nat)] H (fun v H'=>Ext H H'/\v=.int .i64 ((x+y).val:Nat)):=by
 have h2:=qle (f:=f);have hx:=x.lt;have hy:=y.lt;have hc:=pq (OkC.ok (f:=f));rw[val_add];have e1:=iI (a:=x.val) (b:=y.val) byO byO;have e2:((x.val:Int)+(y.val:Int)).tmod (f.q:Int)=(((x.val+y.val)%f.q:Nat):Int):=by
  rw[Int.tmod_eq_emod_of_nonneg byO];rfl
 unfold fvf fv;refine stG rfl rfl ?_;unfold NO;simp only[kB,aB];refine aC ?_;refine aS ?_ ?_<;>intro h
 ·have hp:f.poly≠0:=hc.1 (by simp at h;omega)
  clear h;refine aC ?_;refine aT ?_;refine⟨Ext.app _ _,?_⟩;unfold ek;rw[if_neg hp];rfl
 ·have hp:f.poly=0:=by
   apply Decidable.byContradiction;intro h0;have:=hc.2 h0;simp at h;omega
  clear h;refine aC ?_;refine aT ?_;refine⟨Ext.app _ _,?_⟩;unfold ek;rw[if_pos hp];rfl
theorem rD(x y:El f):Ev cp lo 68 [fvf f,.int .i64 (x.val:Nat),.int .i64 (y.val:Nat)] H (fun v H'=>Ext H H'/\v=.int .i64 ((x-y).val:Nat)):=by
 have h2:=qle (f:=f);have hx:=x.lt;have hy:=y.lt;have hs:(x-y).val=va f x.val y.val:=(yy (OkC.ok (f:=f)) x.lt y.lt).symm;have hc:=pq (OkC.ok (f:=f));rw[hs];clear hs;have e1:=iI (a:=x.val) (b:=y.val) byO byO;have e2:((x.val:Int)+f.q-y.val).tmod (f.q:Int)=(((x.val+f.q-y.val)%f.q:Nat):Int):=by
  rw[Int.tmod_eq_emod_of_nonneg byO,show(x.val:Int)+f.q-y.val=((x.val+f.q-y.val:Nat):Int) by omega];rfl
 unfold fvf fv;refine stG rfl rfl ?_;unfold NP;simp only[kB,aB];refine aC ?_;refine aS ?_ ?_<;>intro h
 ·have hp:f.poly≠0:=hc.1 (by simp at h;omega)
  clear h;refine aC ?_;refine aT ?_;refine⟨Ext.app _ _,?_⟩;unfold va;rw[if_neg hp];rfl
 ·have hp:f.poly=0:=by
   apply Decidable.byContradiction;intro h0;have:=hc.2 h0;simp at h;omega
  clear h;refine aC ?_;refine aT ?_;refine⟨Ext.app _ _,?_⟩;unfold va;rw[if_pos hp];rfl
theorem wH(b k:Nat):b%2^(k+1)=b%2^k ^^^ (if b/2^k%2=1 then 2^k else 0):=by
 apply Nat.eq_of_testBit_eq;intro i;rw[Nat.testBit_xor,Nat.testBit_mod_two_pow,Nat.testBit_mod_two_pow];by_cases hb:b/2^k%2=1
 ·rw[if_pos hb,Nat.testBit_two_pow]
  have hbk:=pJ.1 hb;by_cases h:i=k
  ·subst h;simp[hbk]
  ·have h1:decide (i<k+1)=decide (i<k):=by rw[Bool.eq_iff_iff];simp;omega
   have h2:decide (k=i)=false:=by simp;omega
   rw[h1,h2];simp
 ·rw[if_neg hb,Nat.zero_testBit]
  have hbk:b.testBit k=false:=by rw[Bool.eq_false_iff];exact fun h=>hb (pJ.2 h)
  by_cases h:i=k
  ·subst h;simp[hbk]
  ·have h1:decide (i<k+1)=decide (i<k):=by rw[Bool.eq_iff_iff];simp;omega
   rw[h1];simp
theorem CG{a b:Nat}(ha:a<4096)(hb:b<4096):cl a b<2^30:=by
 have h:=JH (a:=a) (b:=b);have key:∀n:Nat,n<4096->n.log2<=11:=by
  intro n hn;by_cases h0:n=0
  ·rw[h0];decide
  ·have:=Nat.lt_of_le_of_lt (fe h0) (show n<2^12 by omega)
   have:=(Nat.pow_lt_pow_iff_right (by omega:1<2)).1 this;omega
 have h1:=key a ha;have h2:=key b hb;exact bc₀ h (Nat.pow_le_pow_right byO byO)
theorem fh(x y:El f):Ev cp lo 69 [fvf f,.int .i64 (x.val:Nat),.int .i64 (y.val:Nat)] H (fun v H'=>Ext H H'/\v=.int .i64 ((x*y).val:Nat)):=by
 have h2:=qle (f:=f);have hx:=x.lt;have hy:=y.lt;have hc:=pq (OkC.ok (f:=f));rw[val_mul];generalize x.val=a at *;generalize y.val=b at *;unfold fvf fv;refine stG rfl rfl ?_;unfold NQ;simp only[kB,aB];refine aC ?_;refine aS ?_ ?_<;>intro h
 ·have hp:f.poly=0:=by
   apply Decidable.byContradiction;intro h0;have:=hc.2 h0;simp at h;omega
  clear h;have hm:=uJ (a:=(a:Int)) (b:=(b:Int)) (A:=4096) (B:=4096) byO byO byO byO byO;have hmod:((a:Int)*(b:Int)).tmod (f.q:Int)=((a*b%f.q:Nat):Int):=by
   rw[<-Int.natCast_mul,Int.tmod_eq_emod_of_nonneg byO];rfl
  refine aC ?_;refine aT ?_;refine⟨Ext.app _ _,?_⟩;unfold eN;rw[if_pos hp];rfl
 have hp:f.poly≠0:=hc.1 (by simp at h;omega);clear h;have hfm:eN f a b=rm (cl a b) f.poly:=by unfold eN;rw[if_neg hp]
 have hpb:=pS (OkC.ok (f:=f));have hpb2:f.poly<2^13:=by
  rcases(OkC.ok (f:=f))with ⟨e,_⟩|⟨_,hP,hP12,hq,hi⟩
  ·exact absurd e hp
  ·exact bc₀ (cX f.poly) (Nat.pow_le_pow_right byO byO)
 rw[hfm];clear hfm;generalize hG:H++_=G at *;have g0:G.get H.length=some [Value.int .i64 (FD.ch f:Nat),Value.int .i64 (f.q:Nat),Value.int .i64 (f.poly:Nat)]:=by rw[<-hG];exact aK
 have hxG:Ext H G:=by rw[<-hG];exact Ext.app _ _
 clear hG;refine aC ?_;refine aY (fun m S H'=>G=H'/\∃(k:Nat) (z0 z7:Value),k<=12/\m=13-k/\S=[z0,.int .i64 (a:Nat),.int .i64 (b:Nat),.pointer (some ⟨H.length,0,none⟩),.int .i64 0,.int .i64 (cl a (b%2^k):Nat),.int .i64 (k:Nat),z7]) 13 ?_ ?_
 ·exact⟨rfl,0,_,_,byO,byO,by rw[show b%2^0=0 by omega,fX];rfl⟩
 rintro m S H' ⟨rfl,k,z0,z7,hk,rfl,rfl⟩;have a1:=lh b k .i64 (by show k<=64;omega);have hdl:=Nat.div_le_self b (2^k);have a2:=p3 (b:=b/2^k) byO;have hak:a*2^k<2^24:=by
  have h1:2^k<=2^12:=Nat.pow_le_pow_right byO hk;have h3:a*2^k<=4095*2^12:=Nat.mul_le_mul byO h1;omega
 have a3:=kC (a:=a) (k:=k) byO byO;have hmodle:=Nat.mod_le b (2^k);have hclb:=CG (a:=a) (b:=b%2^k) byO byO;have a4:=iI (a:=cl a (b%2^k)) (b:=a <<< k) byO (by rw[Nat.shiftLeft_eq];omega);have hmx:=wH b k;(try simp only[aB]);refine aS ?_ ?_<;>intro h
 ·have hpos:b/2^k≠0:=by have h3:=of_decide_eq_true h;generalize b/2^k=z at *;omega
  clear h;have hk11:k<=11:=by
   apply Decidable.byContradiction;intro hcc;apply hpos;have:2^12<=2^k:=Nat.pow_le_pow_right byO byO;exact Nat.div_eq_of_lt byO
  (try simp only[aB]);refine aS ?_ ?_<;>intro h
  ·have hb:b/2^k%2=1:=by have h3:=of_decide_eq_true h;generalize b/2^k%2=z at *;omega
   clear h;rw[if_pos hb]at hmx;refine aC ?_;simp only[ak];exact⟨13-(k+1),byO,by trivial,k+1,_,_,byO,rfl,by rw[hmx,jO,fu];first|rfl|(simp only[ap₀,Int.natCast_one];rfl)⟩
  ·have hb:¬ b/2^k%2=1:=by have h3:=of_decide_eq_false h;generalize b/2^k%2=z at *;omega
   clear h;rw[if_neg hb,Nat.xor_zero]at hmx;refine aC ?_;simp only[ak];exact⟨13-(k+1),byO,by trivial,k+1,_,_,byO,rfl,by rw[hmx];first|rfl|(simp only[ap₀,Int.natCast_one];rfl)⟩
 ·have hz:b/2^k=0:=by have h3:=of_decide_eq_false h;generalize b/2^k=z at *;omega
  clear h;have hbm:b%2^k=b:=by
   apply Nat.mod_eq_of_lt;rcases Nat.div_eq_zero_iff.1 hz with h3|h3
   ·have:0<2^k:=Nat.pow_pos byO;omega
   ·exact h3
  rw[hbm]at hclb ⊢;clear a1 a2 a3 a4 hmx;(try simp only[aB]);refine aQ ?_;refine aA (JY (p:=cl a b) (q:=f.poly) byO byO hp) ?_;rintro v H1 ⟨rfl,rfl⟩;refine aC ?_;refine aT ?_;exact⟨hxG,rfl⟩
end
theorem ris{ch sz po x:Int}:Ev cp lo 110 [fv ch sz po,.int .i64 x] H (fun v H'=>Ext H H'/\v=.bool (decide (0<=x)&&decide (x<sz))):=by
 unfold fv;refine stG rfl rfl ?_;unfold Hp;simp only[kB,aB];refine aC ?_;refine aT ?_;exact⟨Ext.app _ _,rfl⟩
section
variable {f:FD}[OkC f]
theorem MI(a:El f)(n:Nat):pw (a*a) n=pw a (2*n):=by
 rw[dZ];congr 1;rw[eD,oJ]
def fvC(f:FD):List Value:=[.int .i64 (FD.ch f:Nat),.int .i64 (f.q:Nat),.int .i64 (f.poly:Nat)]
theorem yL(a:El f)(n:Nat)(hn:n<=1000000000000):Ev cp lo 160 [fvf f,.int .i64 (a.val:Nat),.int .i64 n] H (fun v H'=>Ext H H'/\v=.int .i64 ((pw a n).val:Nat)):=by
 unfold fvf fv;refine stG rfl rfl ?_;unfold I6;simp only[kB,aB];refine aC ?_;generalize hG:H++_=G at *;have g0:G.get H.length=some (fvC f):=by rw[<-hG];exact aK
 have hxG:Ext H G:=by rw[<-hG];exact Ext.app _ _
 clear hG;refine aY (fun m S H'=>Ext H H'/\H'.get H.length=some (fvC f)/\∃(x p:El f) (z0 z6 z7:Value),m<=n/\p*pw x m=pw a n/\S=[z0,.int .i64 (x.val:Nat),.int .i64 (m:Nat),.pointer (some ⟨H.length,0,none⟩),.int .i64 0,.int .i64 (p.val:Nat),z6,z7]) n ?_ ?_
 ·exact⟨hxG,g0,a,1,_,_,_,Nat.le_refl _,one_mul _,rfl⟩
 clear g0 hxG;rintro m S H1 ⟨hx1,g0,x,p,z0,z6,z7,hm,hinv,rfl⟩;unfold fvC at g0;(try simp only[aB]);refine aS ?_ ?_<;>intro h
 ·have hm0:0<m:=by simpa using h
  clear h;have e1:(m:Int).tmod 2=((m%2:Nat):Int):=by rw[Int.tmod_eq_emod_of_nonneg byO];rfl
  have e2:(m:Int).tdiv 2=((m/2:Nat):Int):=by rw[Int.tdiv_eq_ediv_of_nonneg byO];rfl
  (try simp only[aB]);refine eI (fun S' H'=>Ext H H'/\H'.get H.length=some (fvC f)/\∃(z0 z6 z7:Value),S'=[z0,.int .i64 (x.val:Nat),.int .i64 (m:Nat),.pointer (some ⟨H.length,0,none⟩),.int .i64 0,.int .i64 ((if m%2=1 then p*x else p).val:Nat),z6,z7]) ?_ ?_
  ·refine aS ?_ ?_<;>intro h
   ·have ho:m%2=1:=by simp at h;omega
    clear h;(try simp only[aB]);refine aQ ?_;refine aA (fh p x) ?_;rintro v H2 ⟨hx2,rfl⟩;have g0:=hx2.get g0;refine aC ?_;exact⟨hx1.trans hx2,g0,_,_,_,by rw[if_pos ho]⟩
   ·have ho:¬ m%2=1:=by simp at h;omega
    clear h;(try simp only[aB]);exact⟨hx1,g0,_,_,_,by rw[if_neg ho]⟩
  clear g0 hx1;rintro S' H2 ⟨hx2,g0,z0,z6,z7,rfl⟩;unfold fvC at g0;generalize hp':(if m%2=1 then p*x else p)=p' at *;(try simp only[aB]);refine aQ ?_;refine aA (fh x x) ?_;rintro v H3 ⟨hx3,rfl⟩;have g0:=hx3.get g0;refine aC ?_;simp only[ak];refine⟨m/2,byO,hx2.trans hx3,g0,x*x,p',_,_,_,byO,?_,rfl⟩;rw[<-hinv,MI,<-hp'];by_cases ho:m%2=1
  ·rw[if_pos ho,mul_assoc]
   congr 1;obtain⟨k,rfl⟩:∃k,m=2*k+1:=⟨m/2,byO⟩;rw[show(2*k+1)/2=k by omega,eD,mul_comm]
  ·rw[if_neg ho,show 2*(m/2)=m by omega]
 ·have hm0:m=0:=by simp at h;omega
  clear h;rw[hm0,fF,mul_one]at hinv;refine aC ?_;refine aT ?_;exact⟨hx1,by rw[<-hinv];rfl⟩
theorem PL{a:El f}(ha:a≠0):pw a (f.q-1)=1:=by
 obtain⟨g,hg⟩:=OG (OkC.ok (f:=f));obtain⟨n,_,rfl⟩:=pow_sur (kN hg) (dv hg) ha;rw[<-dZ,ba₀,dZ,(dv hg).2.1,gn]
theorem Km{a:El f}(ha:a≠0):pw a (f.q-2)=inv a:=by
 have h2:=qle (f:=f)
 symm
 apply lT;rw[mul_comm,<-eD,show f.q-2+1=f.q-1 by omega,PL ha]
theorem kx(a:El f)(ha:a≠0):Ev cp lo 126 [fvf f,.int .i64 (a.val:Nat)] H (fun v H'=>Ext H H'/\v=.int .i64 ((inv a).val:Nat)):=by
 have h2:=qle (f:=f);have e:((f.q:Int)-2)=((f.q-2:Nat):Int):=byO;rw[<-Km ha];unfold fvf fv;refine stG rfl rfl ?_;unfold IH;simp only[kB,aB];refine aC ?_;refine aQ ?_;refine aA (yL a (f.q-2) byO) ?_;rintro v H2 ⟨hx2,rfl⟩;refine aC ?_;refine aT ?_;exact⟨hx2.of_app,rfl⟩
theorem ML{a:El f}{n:Nat}(hn:Ord a n)(hn2:n<f.q):Ev cp lo 191 [fvf f,.int .i64 (a.val:Nat)] H (fun v H'=>Ext H H'/\v=.int .i64 n):=by
 have h2:=qle (f:=f);unfold fvf fv;refine stG rfl rfl ?_;unfold Iw;simp only[kB,aB];refine aC ?_;generalize hG:H++_=G at *;have g0:G.get H.length=some (fvC f):=by rw[<-hG];exact aK
 have hxG:Ext H G:=by rw[<-hG];exact Ext.app _ _
 clear hG;refine aY (fun m S H'=>∃(k:Nat) (z0 z6:Value),1<=k/\k<=n/\m=n-k/\Ext H H'/\H'.get H.length=some (fvC f)/\S=[z0,.int .i64 (a.val:Nat),.pointer (some ⟨H.length,0,none⟩),.int .i64 0,.int .i64 (k:Nat),.int .i64 ((pw a k).val:Nat),z6]) (n-1) ?_ ?_
 ·exact⟨1,_,_,byO,hn.1,rfl,hxG,g0,by rw[oJ];rfl⟩
 clear g0 hxG;rintro m S H1 ⟨k,z0,z6,hk1,hkn,rfl,hx1,g0,rfl⟩;unfold fvC at g0;(try simp only[aB]);refine aS ?_ ?_<;>intro h
 ·have hne:(pw a k).val≠1:=by simp at h;omega
  clear h;have hlt:k<n:=by
   apply Decidable.byContradiction;intro hc;have:k=n:=byO;rw[this,hn.2.1]at hne;exact hne rfl
  (try simp only[aB]);refine aQ ?_;refine aA (fh (pw a k) a) ?_;rintro v H2 ⟨hx2,rfl⟩;have g0:=hx2.get g0;have hx2:=hx1.trans hx2;refine aC ?_;simp only[ak];exact⟨n-(k+1),byO,k+1,_,_,byO,byO,rfl,hx2,g0,ncM⟩
 ·have hkk:k=n:=by
   apply Decidable.byContradiction;intro hc;apply hn.2.2 k byO byO;apply El.ext;rw[Eo];simp at h;omega
  clear h;refine aC ?_;refine aT ?_;exact⟨hx1,by rw[<-hkk];rfl⟩
theorem rF{g:El f}(hg:Gn (OkC.ok (f:=f)) g):Ev cp lo 159 [fvf f] H (fun v H'=>Ext H H'/\v=.int .i64 (g.val:Nat)):=by
 have h2:=qle (f:=f);have hgl:=g.lt;unfold fvf fv;refine stG rfl rfl ?_;unfold I5;simp only[kB,aB];refine aC ?_;generalize hG:H++_=G at *;have g0:G.get H.length=some (fvC f):=by rw[<-hG];exact aK
 have hxG:Ext H G:=by rw[<-hG];exact Ext.app _ _
 clear hG;have hgp:=hg.pos;refine aY (fun m S H'=>∃(k:Nat) (z0 z4 z5:Value),1<=k/\k<=g.val/\m=g.val-k/\Ext H H'/\H'.get H.length=some (fvC f)/\S=[z0,.pointer (some ⟨H.length,0,none⟩),.int .i64 0,.int .i64 (k:Nat),z4,z5]) (g.val-1) ?_ ?_
 ·exact⟨1,_,_,_,byO,byO,rfl,hxG,g0,rfl⟩
 clear g0 hxG;rintro m S H1 ⟨k,z0,z4,z5,hk1,hkn,rfl,hx1,g0,rfl⟩;obtain⟨n,hn,hnq⟩:∃n,Ord (⟨k,byO⟩:El f) n/\n<=f.q-1:=by
  refine(OkC.ok (f:=f)).num.ord ⟨k,byO⟩ (fun e=>?_);have:k=0:=congrArg El.val e;omega
 unfold fvC at g0;(try simp only[aB]);refine aS ?_ ?_<;>intro h;rotate_left
 ·simp at h;omega
 clear h;(try simp only[aB]);refine aQ ?_;refine aN (ML hn byO) ?_;rintro v H2 ⟨hx2,rfl⟩;have g0:=hx2.get g0;have hx2:=hx1.trans hx2;(try simp only[aB]);refine aS ?_ ?_<;>intro h
 ·have he:n=f.q-1:=by simp at h;omega
  clear h;have hkk:k=g.val:=by
   apply Decidable.byContradiction;intro hc;rw[he]at hn;exact hg.min ⟨k,byO⟩ hk1 (by show k<g.val;omega) hn
  refine aC ?_;refine aT ?_;exact⟨hx2,by rw[<-hkk];rfl⟩
 ·have hne:n≠f.q-1:=by simp at h;omega
  clear h;have hlt:k<g.val:=by
   apply Decidable.byContradiction;intro hc;have hkg:(⟨k,byO⟩:El f)=g:=El.ext (by show k=g.val;omega);rw[hkg]at hn;exact hne (Nat.dvd_antisymm (iE hn (dv hg).2.1) (iE (dv hg) hn.2.1))
  refine aC ?_;simp only[ak];exact⟨g.val-(k+1),byO,k+1,_,_,_,byO,byO,rfl,hx2,g0,ncM⟩
end
end Go.Proofs.YtmnlgdpdgjbfgaaGreat
namespace Go.Proofs.YtmnlgdpdgjbfgaaGreat
open Go.Abs Go.RS
variable{H:Heap}{lo:Nat}{v:Value}
section
variable {f:FD}[OkC f]
theorem wa(n:Nat)(F:Nat->El f):tab (n+1) F=tab n F++[F n]:=by simp[tab,List.range_succ]
theorem kf(l:List (El f))(x:El f):elL (l++[x])=elL l++[pF x]:=by simp[elL]
namespace XHd
def xtr:=zzi @Int.cast_ofNat_Int (zzi @fv.eq_1 (zzi @fvf.eq_1 (zzi @fvC.eq_1 (zzi @cdC.eq_1 (zzi @iU (zzi @bq (zzi @eQ @fj)))))))
end XHd
open XHd
theorem MK{g:El f}(hlo:lo<=H.length)(hg:Gn (OkC.ok (f:=f)) g)(r b:Nat)(hr:r<=100000000)(hb:b<=100000000):Ev cp lo 111 [cdV f r b] H (fun v H'=>Ext H H'/\SlE H' v (tab r (fun i=>pw g (b+i)))):=by
 unfold cdV;refine stG rfl rfl ?_;unfold Hq;simp only[kB,aB];refine aC ?_;refine aQ ?_;refine aA (rF hg) ?_;rintro v H1 ⟨hx1,rfl⟩;have g0:H1.get H.length=some _:=hx1.get aW;have hx1:=hx1.of_app;refine aC ?_;refine aQ ?_;refine aA (yL g b byO) ?_;rintro v H2 ⟨hx2,rfl⟩;have g0:=hx2.get g0;have hx2:=hx1.trans hx2;have hl2:=Heap.get_lt g0;refine aC ?_;refine aa (fun i S H'=>Ext H H'/\H'.get H.length=some (cdC f r b)/\∃vd bd,H.length<bd/\Own lo 1 H' vd bd (elL (tab i (fun k=>pw g (b+k))))/\∃(z:Nat->Value),S=[z 0,.pointer (some ⟨H.length,0,none⟩),.slice none 0 0,.int .i64 (g.val:Nat),vd,.int .i64 ((pw g (b+i)).val:Nat),.int .i64 (i:Nat),z 7,z 8,z 9,z 10,z 11,z 12]) r ?_ ?_ ?_ ?_
 ·exact⟨hx2,g0,_,H2.length,byO,Own.nil (by have:=hx2.1;omega),aR rfl⟩
 ·rintro i S H' hi ⟨hx,f0,vd,bd,hbd,hown,z,rfl⟩
  exact⟨_,aW,by simp⟩
 ·clear g0 hx2 hx1 hl2
  rintro i S H1 hi ⟨hx1,f0,vd,bd,hbd,hown,z,rfl⟩;have hl1:=hx1.1;have hml:=aG i (fun k=>pw g (b+k));refine aC ?_;refine aQ ?_;refine dG (c:=[pF (pw g (b+i))]) (hown.mono (Ext.app _ _)) (by simp;omega) byO byO (by rw[bq,hml];omega) aK (by simp) rfl rfl ?_;rintro v' H3 hown3 hk hl3;have hE:=Ext.app H1 [some [Value.int .i64 ((pw g (b+i)).val:Nat)]];have hx3:=hk.ext (hx1.trans hE) byO;have f0:=hk.get (hE.get f0) byO;simp only[as₀,ak₀,an₀]at hown3;have hl3:=hx3.1;clear hml;refine aC ?_;refine aQ ?_;refine aA (fh (pw g (b+i)) g) ?_;rintro v H4 ⟨hx4,rfl⟩;have f0:=hx4.get f0;have hown4:=hown3.mono hx4;have hx4:=hx3.trans hx4;refine aC ?_;exact⟨hx4,f0,_,H1.length+(0+1),byO,by rw[wa,kf];exact hown4,aR ncM⟩
 ·rintro S H1 ⟨hx1,f0,vd,bd,hbd,hown,z,rfl⟩
  refine aC ?_;refine aT ?_;exact⟨hx1,Sl.ofOwn hown⟩
theorem M6{w:List (El f)}(hlo:lo<=H.length)(hw:SlE H v w)(hwl:w.length<=1000000000)(x:El f):Ev cp lo 173 [fvf f,v,.int .i64 (x.val:Nat)] H (fun v H'=>Ext H H'/\v=.int .i64 ((c9 w x).val:Nat)):=by
 have hw0:=hw;obtain⟨ad,c,rfl⟩:=hw.len;unfold fvf fv;refine stG rfl rfl ?_;unfold Ik;simp only[kB,aB];refine aC ?_;generalize hG:H++_=G at *;have g0:G.get H.length=some (fvC f):=by rw[<-hG];exact aK
 have hxG:Ext H G:=by rw[<-hG];exact Ext.app _ _
 clear hG;refine aa (fun i S H'=>Ext H H'/\H'.get H.length=some (fvC f)/\∃z0 z7 z8 z9 z10,S=[z0,.slice ad w.length c,.int .i64 (x.val:Nat),.pointer (some ⟨H.length,0,none⟩),.int .i64 0,.int .i64 ((c9 (w.take i) x).val:Nat),.int .i64 (i:Nat),z7,z8,z9,z10]) w.length ?_ ?_ ?_ ?_
 ·exact⟨hxG,g0,_,_,_,_,_,rfl⟩
 ·rintro i S H' hi ⟨hx,f0,z0,z7,z8,z9,z10,rfl⟩
  exact⟨_,aW,by simp⟩
 ·clear g0 hxG
  rintro i S H1 hi ⟨hx1,f0,z0,z7,z8,z9,z10,rfl⟩;obtain⟨b,o,sp,cap,xs,e,gx,hat,hxl⟩:=dV hw0 byO;cases e;have gx:=hx1.get gx;have hati:=hat i hi;have hs:=ki hi x;clear hat;(try simp only[aB]);refine aQ ?_;refine aN (fh (c9 (w.take i) x) x) ?_;rintro v H2 ⟨hx2,rfl⟩;have f0:=hx2.get f0;have hx2:=hx1.trans hx2;(try simp only[aB]);refine aQ ?_;refine aA (zj _ (co w i)) ?_;rintro v H3 ⟨hx3,rfl⟩;have f0:=hx3.get f0;have hx3:=hx2.trans hx3;refine aC ?_;exact⟨hx3,f0,_,_,_,_,_,by rw[hs];first|rfl|(simp only[ap₀,Int.natCast_one];rfl)|simp only[ap₀,Int.natCast_one]⟩
 ·rintro S H1 ⟨hx1,f0,z0,z7,z8,z9,z10,rfl⟩
  rw[List.take_length];refine aC ?_;refine aT ?_;exact⟨hx1,rfl⟩
theorem EE{p:List (El f)}(hlo:lo<=H.length)(hp:SlE H v p)(hpl:p.length<=1000000000)(x:El f):Ev cp lo 125 [fvf f,v,.int .i64 (x.val:Nat)] H (fun v H'=>Ext H H'/\v=.int .i64 ((hor p x).val:Nat)):=by
 have hp0:=hp;obtain⟨ad,c,rfl⟩:=hp.len;unfold fvf fv;refine stG rfl rfl ?_;unfold IG;simp only[kB,aB];refine aC ?_;generalize hG:H++_=G at *;have g0:G.get H.length=some (fvC f):=by rw[<-hG];exact aK
 have hxG:Ext H G:=by rw[<-hG];exact Ext.app _ _
 clear hG;refine aY (fun m S H'=>∃(k:Nat) (z0 z7 z8 z9 z10:Value),k<=p.length/\m=k/\Ext H H'/\H'.get H.length=some (fvC f)/\S=[z0,.slice ad p.length c,.int .i64 (x.val:Nat),.pointer (some ⟨H.length,0,none⟩),.int .i64 0,.int .i64 ((hor (p.drop k) x).val:Nat),.int .i64 ((k:Int)-1),z7,z8,z9,z10]) p.length ?_ ?_
 ·exact⟨p.length,_,_,_,_,_,Nat.le_refl _,rfl,hxG,g0,by rw[List.drop_length];rfl⟩
 clear g0 hxG;rintro m S H1 ⟨k,z0,z7,z8,z9,z10,hk,rfl,hx1,g0,rfl⟩;have hl1:=hx1.1;(try simp only[aB]);refine aS ?_ ?_<;>intro h
 ·have hm0:0<m:=by simp at h;omega
  clear h;obtain⟨n,rfl⟩:∃n,m=n+1:=⟨m-1,byO⟩;have hn:n<p.length:=byO;obtain⟨b,o,sp,cap,xs,e,gx,hat,hxl⟩:=dV hp0 byO;cases e;have gx:=hx1.get gx;have hati:=hat n hn;have e1:(((n+1:Nat):Int)-1)=(n:Int):=byO;have hfd:=qR hn x;rw[e1];clear hat;(try simp only[aB]);refine aQ ?_;refine aN (fh (hor (p.drop (n+1)) x) x) ?_;rintro v H2 ⟨hx2,rfl⟩;have g0:=hx2.get g0;have hx2:=hx1.trans hx2;have hl2:=hx2.1;(try simp only[aB]);refine aQ ?_;refine aA (zj _ (co p n)) ?_;rintro v H3 ⟨hx3,rfl⟩;have g0:=hx3.get g0;have hx3:=hx2.trans hx3;refine aC ?_;simp only[ak];exact⟨n,byO,n,_,_,_,_,_,byO,rfl,hx3,g0,by rw[hfd]⟩
 ·have hm0:m=0:=by simp at h;omega
  clear h;subst hm0;refine aC ?_;refine aT ?_;exact⟨hx1,rfl⟩
theorem rS{g:El f}{w:List (El f)}(hlo:lo<=H.length)(hg:Gn (OkC.ok (f:=f)) g)(hw:SlE H v w)(hwl:w.length<=100000000)(r b:Nat)(hr:r<=100000000)(hb:b<=100000000) :
  Ev cp lo 122 [cdV f r b,v] H (fun v H'=>Ext H H'/\SlE H' v (ef g r b w)):=by
 have hw0:=hw;obtain⟨aw,cw,rfl⟩:=hw.len;unfold cdV;refine stG rfl rfl ?_;unfold ID;simp only[kB,aB];refine aC ?_;generalize hG:H++_=G at *;have g0:G.get H.length=some (cdC f r b):=by rw[<-hG];exact aK
 have hxG:Ext H G:=by rw[<-hG];exact Ext.app _ _
 clear hG;have hl0:=hxG.1;refine aQ ?_;refine aA (MK byO hg r b hr hb) ?_;rintro v H1 ⟨hx1,hroots⟩;have g0:=hx1.get g0;have hx1:=hxG.trans hx1;have hr0:=hroots;have hrl:=aG r (fun i=>pw g (b+i));obtain⟨ar,cr,rfl⟩:=hroots.len;rw[hrl];have hl1:=Heap.get_lt g0;refine aC ?_;refine aa (fun i S H'=>Ext H1 H'/\∃vd bd,H1.length<=bd/\Own lo 1 H' vd bd (elL (ef g i b w))/\∃(z:Nat->Value),S=[z 0,.slice aw w.length cw,.pointer (some ⟨H.length,0,none⟩),.slice none 0 0,.slice ar r cr,vd,.int .i64 (i:Nat),z 7,z 8,z 9,z 10,z 11]) r ?_ ?_ ?_ ?_
 ·exact⟨Ext.refl _,_,H1.length,Nat.le_refl _,Own.nil byO,aR rfl⟩
 ·rintro i S H' hi ⟨hx,vd,bd,hbd,hown,z,rfl⟩
  exact⟨_,aW,by simp⟩
 ·rintro i S H2 hi ⟨hx2,vd,bd,hbd,hown,z,rfl⟩
  have hl2:=hx2.1;obtain⟨b',o,sp,cap,xs,e,gx,hat,hxl⟩:=dV hr0 (by rw[hrl];omega);cases e;rw[hrl]at hat hxl;have gx:=hx2.get gx;have f0:=hx2.get g0;have hati:=hat i hi;have hco:co (tab r (fun i=>pw g (b+i))) i=pw g (b+i):=by rw[dL,if_pos hi]
  rw[hco]at hati;clear hat;(try simp only[aB]);refine aQ ?_;refine aA (M6 byO (hw0.mono (hx1.trans hx2)) byO (pw g (b+i))) ?_;rintro v H3 ⟨hx3,rfl⟩;have hown:=hown.mono hx3;have hx3:=hx2.trans hx3;have hl3:=hx3.1;have hml:(ef g i b w).length=i:=aG _ _;refine aC ?_;refine aQ ?_;refine dG (c:=[pF (c9 w (pw g (b+i)))]) (hown.mono (Ext.app _ _)) (by simp;omega) byO byO (by rw[bq,hml];omega) aK (by simp) rfl rfl ?_;rintro v' H4 hown4 hk hl4;have hE:=Ext.app H3 [some [Value.int .i64 ((c9 w (pw g (b+i))).val:Nat)]];have hx4:=hk.ext (hx3.trans hE) byO;simp only[as₀,ak₀,an₀]at hown4;clear hml;refine aC ?_;exact⟨hx4,_,H3.length+(0+1),byO,by unfold ef;rw[wa,kf];exact hown4,aR ncM⟩
 ·rintro S H2 ⟨hx2,vd,bd,hbd,hown,z,rfl⟩
  refine aC ?_;refine aT ?_;exact⟨hx1.trans hx2,Sl.ofOwn hown⟩
theorem atV{p:List (El f)}(hp:SlE H v p)(i:Nat):Ev cp lo 174 [v,.int .i64 i] H (fun v H'=>H'=H/\v=.int .i64 ((co p i).val:Nat)):=by
 have hp0:=hp;obtain⟨ad,c,rfl⟩:=hp.len;refine stG rfl rfl ?_;unfold Il;simp only[kB,aB];refine aC ?_;refine aS ?_ ?_<;>intro h
 ·have hi:i<p.length:=by simp at h;omega
  clear h;obtain⟨b',o,sp,cap,xs,e,gx,hat,hxl⟩:=dV hp0 byO;cases e;have hati:=hat i hi;clear hat;refine aC ?_;refine aT ?_;exact⟨rfl,rfl⟩
 ·have hi:p.length<=i:=by simp at h;omega
  clear h;refine aC ?_;refine aT ?_;exact⟨rfl,by rw[kW hi];rfl⟩
set_option maxHeartbeats 1000000 in
theorem ON{vp vq:Value}{p q:List (El f)}(hlo:lo<=H.length)(hp:SlE H vp p)(hq:SlE H vq q)(hpl:p.length<=100000000)(hql:q.length<=100000000)(n:Nat)(hn:n<=100000000)(c:El f) :
  Ev cp lo 175 [fvf f,vp,vq,.int .i64 (c.val:Nat),.int .i64 n] H (fun v H'=>Ext H H'/\∃b,H.length<=b/\v=.slice (some ⟨b,0,none⟩) (mE p q n c).length (mE p q n c).length/\H'.get b=some (elL (mE p q n c))):=by
 have hp0:=hp;have hq0:=hq;have hrl:(mE p q n c).length=max p.length (q.length+n):=aG _ _;obtain⟨ap,cp',rfl⟩:=hp.len;obtain⟨aq,cq,rfl⟩:=hq.len;have hmx:=fun(H:Heap)=>zP (H:=H) p.length (q.length+n);rw[hrl];unfold fvf fv;have hN:max p.length (q.length+n)<=200000000:=byO;have hcast:((q.length:Int)+(n:Int))=((q.length+n:Nat):Int):=byO;refine stG rfl rfl ?_;unfold Im;simp only[kB,aB];refine aC ?_;generalize hG:H++_=G at *;have g0:G.get H.length=some (fvC f):=by rw[<-hG];exact aK
 have g1:G.get (H.length+1)=some (elL (tab (max p.length (q.length+n)) (fun _=>(0:El f)))):=by rw[<-hG,bI,fA];rfl
 have hxG:Ext H G:=by rw[<-hG];exact Ext.app _ _
 clear hG hmx hcast;generalize hNe:max p.length (q.length+n)=N at *;refine aa (fun i S H'=>Ext H H'/\H'.get H.length=some (fvC f)/\H'.get (H.length+1)=some (elL (tab N (fun k=>if k<i then co p k-c*sh n (co q) k else 0)))/\∃(z:Nat->Value),S=[z 0,.slice ap p.length cp',.slice aq q.length cq,.int .i64 (c.val:Nat),.int .i64 (n:Nat),.pointer (some ⟨H.length,0,none⟩),.slice none 0 0,.slice (some ⟨H.length+1,0,none⟩) N N,.int .i64 (i:Nat),z 9,z 10,z 11,z 12,z 13,z 14,z 15,z 16,z 17,z 18,z 19,z 20]) N ?_ ?_ ?_ ?_
 ·refine⟨hxG,g0,?_,aR rfl⟩
  rw[g1];refine congrArg (fun t=>some (elL t)) ?_;exact ah fun k _=>(if_neg byO).symm
 ·rintro i S H' hi ⟨hx,f0,f1,z,rfl⟩
  exact⟨_,aW,by simp⟩
 ·clear g0 g1 hxG
  rintro i S H1 hi ⟨hx1,f0,f1,z,rfl⟩;have hset:(tab N (fun k=>if k<i then co p k-c*sh n (co q) k else 0)).set i (co p i-c*sh n (co q) i)=tab N (fun k=>if k<i+1 then co p k-c*sh n (co q) k else 0):=by
   rw[kF];refine ah fun k hk=>?_;by_cases e:k=i
   ·rw[if_pos e,if_pos byO,e]
   ·rw[if_neg e]
    by_cases h2:k<i
    ·rw[if_pos h2,if_pos byO]
    ·rw[if_neg h2,if_neg byO]
  have hlen2:(tab N (fun k=>if k<i then co p k-c*sh n (co q) k else 0)).length<=N/\N<=(tab N (fun k=>if k<i then co p k-c*sh n (co q) k else 0)).length:=by rw[aG];omega
  generalize tab N (fun k=>if k<i then co p k-c*sh n (co q) k else 0)=T at *;refine aC ?_;refine eI (fun S H'=>Ext H1 H'/\∃z0 z10 z11 z12 z13 z14 z15 z16 z17 z18 z19 z20,S=[z0,.slice ap p.length cp',.slice aq q.length cq,.int .i64 (c.val:Nat),.int .i64 (n:Nat),.pointer (some ⟨H.length,0,none⟩),.slice none 0 0,.slice (some ⟨H.length+1,0,none⟩) N N,.int .i64 (i:Nat),.int .i64 ((c*sh n (co q) i).val:Nat),z10,z11,z12,z13,z14,z15,z16,z17,z18,z19,z20]) ?_ ?_
  ·refine aS ?_ ?_<;>intro h
   ·have hc:n<=i:=by simp at h;omega
    clear h;have e1:((i:Int)-(n:Int))=((i-n:Nat):Int):=byO;have hsh:=ja (co q) hc;(try simp only[aB]);refine aQ ?_;refine aN (atV (hq0.mono hx1) (i-n)) ?_;rintro v H2 ⟨rfl,rfl⟩;(try simp only[aB]);refine aQ ?_;refine aA (fh c (co q (i-n))) ?_;rintro v H3 ⟨hx3,rfl⟩;refine aC ?_;exact⟨hx3,_,_,_,_,_,_,_,_,_,_,_,_,by rw[hsh]⟩
   ·have hc:i<n:=by simp at h;omega
    clear h;have hsh:=ky (co q) hc;(try simp only[aB]);exact⟨Ext.refl _,_,_,_,_,_,_,_,_,_,_,_,_,by rw[hsh,mul_zero];rfl⟩
  rintro S H2 ⟨hx2,z0,z10,z11,z12,z13,z14,z15,z16,z17,z18,z19,z20,rfl⟩;have f0:=(hx2).get f0;have f1:=(hx2).get f1;have hx2:=hx1.trans hx2;(try simp only[aB]);refine aQ ?_;refine aN (atV (hp0.mono hx2) i) ?_;rintro v H3 ⟨rfl,rfl⟩;(try simp only[aB]);refine aQ ?_;refine aA (rD (co p i) (c*sh n (co q) i)) ?_;rintro v H4 ⟨hx4,rfl⟩;have f0:=(hx4).get f0;have f1:=(hx4).get f1;have hx4:=hx2.trans hx4;have hl4:=Heap.get_lt f1;refine aC ?_;exact⟨hx4.set (by omega),by simp(disch:=try exact dO)only[evB,xtr,Nat.reduceAdd,Nat.reduceBEq, *],by rw[aF (by omega)],aR ncM⟩
 ·rintro S H1 ⟨hx1,f0,f1,z,rfl⟩
  refine aC ?_;refine aT ?_;refine⟨hx1,H.length+1,byO,rfl,?_⟩;rw[f1];unfold mE;rw[hNe];exact congrArg (fun t=>some (elL t)) (ah fun k hk=>if_pos hk)
end
end Go.Proofs.YtmnlgdpdgjbfgaaGreat
