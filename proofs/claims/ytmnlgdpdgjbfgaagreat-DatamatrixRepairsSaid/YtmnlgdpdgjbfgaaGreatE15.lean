/- Lemmas. -/
import Derived.Test.YtmnlgdpdgjbfgaaGreatE10
import Derived.Test.YtmnlgdpdgjbfgaaGreatE12
import Derived.Test.YtmnlgdpdgjbfgaaGreatE13
set_option linter.unusedVariables false
set_option linter.unusedSimpArgs false
set_option linter.unusedSectionVars false
namespace Go.Proofs.YtmnlgdpdgjbfgaaGreat
open Go.Abs Go.RS
set_option maxRecDepth 20000
theorem Al{x:Nat}(h:x≠0):ba x=ba (x/2)+1:=by
 by_cases h1:x=1
 ·subst h1;rfl
 have:=n3 (k:=1) (x:=x) (by omega)
 simp at this;omega
theorem mj{lo:Nat}{H:Heap}{p:Int}(hp:p≤9223372036854775807):Ev cp lo 156 [.int .i64 p] H (fun v H'=>H'=H∧v=.int .i64 ((ba p.toNat:Nat)-1)):=by
 by_cases hneg:p≤0
 ·refine KM ?_;unfold zM sW;simp only[kB,aA]
  repeat' ((first|refine bW ?_|refine b7 rfl ?_);(try simp only[aA]))
  refine bI (fun m S H'=>H=H'∧S=[.int .i64 p,.int .i64 0,.int .i64 (-1)]) 0 ⟨rfl,rfl⟩ ?_
  rintro m S H' ⟨rfl,rfl⟩
  (try simp only[aA])
  refine fU (fun h=>?_) (fun h=>?_)
  ·simp at h;omega
  clear h
  (try simp only[aA])
  repeat' ((first|refine bW ?_|refine b7 rfl ?_);(try simp only[aA]))
  refine eh ?_
  refine⟨rfl,?_⟩
  rw[show p.toNat=0 by omega,nh];rfl
 obtain⟨n,rfl⟩:=Int.eq_ofNat_of_zero_le (show 0≤p by omega)
 have hn:=dt (show n<2^63 by omega)
 rw[Int.toNat_natCast]
 refine KM ?_;unfold zM sW;simp only[kB,aA]
 repeat' ((first|refine bW ?_|refine b7 rfl ?_);(try simp only[aA]))
 refine bI (fun m S H'=>H=H'∧∃x:Nat,x≤n∧m=x∧ba x≤ba n∧S=[.int .i64 x,.int .i64 0,.int .i64 ((ba n:Nat)-1-(ba x:Nat))]) n ?_ ?_
 ·exact⟨rfl,n,Nat.le_refl _,rfl,Nat.le_refl _,by rw[show((ba n:Nat):Int)-1-(ba n:Nat)=-1 by omega]⟩
 rintro m S H' ⟨rfl,x,hx,rfl,hlx,rfl⟩
 (try simp only[aA])
 refine fU (fun h=>?_) (fun h=>?_)
 ·have hm:m≠0:=by simp at h;omega
  clear h
  have h1:=Al hm
  have e1:(m:Int).tdiv 2=((m/2:Nat):Int):=by rw[Int.tdiv_eq_ediv_of_nonneg (by omega)];rfl
  (try simp only[aA])
  repeat' ((first|refine bW ?_|refine b7 rfl ?_);(try simp only[aA]))
  simp only[cE]
  exact⟨m/2,by omega,by trivial,m/2,by omega,rfl,by omega,by rw[show((ba n:Nat):Int)-1-(ba (m/2):Nat)=(ba n:Nat)-1-(ba (m/2)+1:Nat)+1 by omega]⟩
 ·have hm:m=0:=by simp at h;omega
  clear h
  subst hm
  rw[nh]
  (try simp only[aA])
  repeat' ((first|refine bW ?_|refine b7 rfl ?_);(try simp only[aA]))
  refine eh ?_
  exact⟨rfl,by simp[aJ]⟩
theorem pH{x k:Nat}:x/2^k%2=1↔x.testBit k=true:=by
 rw[Nat.testBit_eq_decide_div_mod_eq];simp
theorem Bj{x k:Nat}(h:x<2^(k+1))(hb:¬ x/2^k%2=1):x<2^k:=by
 apply Decidable.byContradiction
 intro hc
 have h0:x≠0:=by have:0<2^k:=Nat.pow_pos (by omega);omega
 have hl:=kb (by omega) h
 have:=ij h0
 rw[hl]at this
 exact hb (pH.2 this)
theorem JU{lo:Nat}{H:Heap}{p q:Nat}(hp:p<2^62)(hq:q<2^62)(hq0:q≠0):Ev cp lo 113 [.int .i64 p,.int .i64 q] H (fun v H'=>H'=H∧v=.int .i64 (rm p q:Nat)):=by
 have hlq:=dU hq0
 have hlq2:=dt hq
 have hlp2:=dt hp
 have hlq':ba q≤q.log2+1∧q.log2+1≤ba q:=by omega
 have hpl:p<2^ba p:=by
  by_cases h:p=0
  ·rw[h];exact Nat.pow_pos (by omega)
  ·rw[dU h];exact cV p
 clear hlq
 refine Ng ?_;unfold Cv ui;simp only[kB,aA]
 repeat' ((first|refine bW ?_|refine b7 rfl ?_);(try simp only[aA]))
 refine kR ?_
 refine aC (mj (p:=(q:Int)) (by omega)) ?_
 rintro v H1 ⟨rfl,rfl⟩
 rw[Int.toNat_natCast]
 (try simp only[aA])
 repeat' ((first|refine bW ?_|refine b7 rfl ?_);(try simp only[aA]))
 refine kR ?_
 refine aC (mj (p:=(p:Int)) (by omega)) ?_
 rintro v H2 ⟨rfl,rfl⟩
 rw[Int.toNat_natCast]
 (try simp only[aA])
 repeat' ((first|refine bW ?_|refine b7 rfl ?_);(try simp only[aA]))
 refine bI (fun m S H'=>H2=H'∧∃(x j:Nat) (z5 z6:Value),x<2^62∧j≤62∧x<2^j∧m=j∧rm x q=rm p q∧S=[.int .i64 (x:Nat),.int .i64 (q:Nat),.int .i64 0,.int .i64 ((ba q:Nat)-1),.int .i64 ((j:Nat)-1),z5,z6]) (ba p) ?_ ?_
 ·exact⟨rfl,p,ba p,_,_,hp,hlp2,hpl,rfl,rfl,rfl⟩
 rintro m S H' ⟨rfl,x,j,z5,z6,hx,hj,hxj,rfl,hrm,rfl⟩
 (try simp only[aA])
 refine fU (fun h=>?_) (fun h=>?_)
 ·have hc:ba q≤m:=by simp at h;omega
  clear h
  obtain⟨k,rfl⟩:∃k,m=k+1:=⟨m-1,by omega⟩
  have e0:(((k+1:Nat):Int)-1)=(k:Int):=by omega
  have e1:(k:Int)-((ba q:Nat)-1)=((k-q.log2:Nat):Int):=by omega
  have a1:=lD x k .i64 (by show k≤64;omega)
  have a2:=px (b:=x/2^k) (by
   have:=Nat.div_le_self x (2^k)
   omega)
  have hsl:q <<< (k-q.log2)<2^(q.log2+1+(k-q.log2)):=CB (cV q)
  have hpw:2^(q.log2+1+(k-q.log2))≤2^62:=Nat.pow_le_pow_right (by omega) (by omega)
  have hsl2:=hsl
  rw[Nat.shiftLeft_eq]at hsl2
  have a3:=jb (a:=q) (k:=k-q.log2) (by omega) (by omega)
  have a4:=fQ (a:=x) (b:=q <<< (k-q.log2)) (by omega) (by omega)
  (try simp only[aA])
  refine fU (fun h=>?_) (fun h=>?_)
  ·have hb:x/2^k%2=1:=by have h2:=of_decide_eq_true h;generalize x/2^k%2=z at *;omega
   clear h
   have hx0:x≠0:=by rintro rfl;simp at hb
   have hge:2^k≤x:=Nat.ge_two_pow_of_testBit (pH.1 hb)
   have hxl:=kb hge hxj
   have hred:=yq hq0 hx0 (by omega)
   rw[hxl]at hred
   clear hxl
   (try simp only[aA])
   repeat' ((first|refine bW ?_|refine b7 rfl ?_);(try simp only[aA]))
   simp only[cE]
   refine⟨k,by omega,by trivial,x ^^^ q <<< (k-q.log2),k,_,_,by
    have:2^k≤2^62:=Nat.pow_le_pow_right (by omega) (by omega)
    omega,by omega,hred,rfl,by rw[←hrm,←fe,uL hq0],rfl⟩
  ·have hb:¬ x/2^k%2=1:=by have h2:=of_decide_eq_false h;generalize x/2^k%2=z at *;omega
   clear h
   (try simp only[aA])
   repeat' ((first|refine bW ?_|refine b7 rfl ?_);(try simp only[aA]))
   simp only[cE]
   exact⟨k,by omega,by trivial,x,k,_,_,hx,by omega,Bj hxj hb,rfl,hrm,rfl⟩
 ·have hc:m<ba q:=by simp at h;omega
  clear h
  have hmr:rm x q=x:=gV hq0 (Nat.lt_of_lt_of_le hxj (Nat.pow_le_pow_right (by omega) (by omega)))
  rw[hmr]at hrm
  (try simp only[aA])
  repeat' ((first|refine bW ?_|refine b7 rfl ?_);(try simp only[aA]))
  refine eh ?_
  exact⟨rfl,by rw[←hrm];rfl⟩
theorem LJ{lo:Nat}{H:Heap}{n:Nat}(hn:n≤4096)(hn2:2≤n):Ev cp lo 158 [.int .i64 n] H (fun v H'=>H'=H∧∃b,v=.bool b∧(b=true↔PrN n)):=by
 refine Rj ?_;unfold CU wG;simp only[kB,aA]
 repeat' ((first|refine bW ?_|refine b7 rfl ?_);(try simp only[aA]))
 refine bI (fun m S H'=>∃(d:Nat),2≤d∧d≤n+2∧m=n+3-d∧H=H'∧(∀e,2≤e→e<d→e*e≤n→n%e≠0)∧S=[.int .i64 n,.bool false,.int .i64 d]) (n+1) ?_ ?_
 ·exact⟨2,by omega,by omega,by omega,rfl,fun e h1 h2=>by omega,rfl⟩
 rintro m S H' ⟨d,h2,hle,rfl,rfl,hno,rfl⟩
 have hm:=sj (a:=(d:Int)) (b:=(d:Int)) (A:=5000) (B:=5000) (by omega) (by omega) (by omega) (by omega) (by omega)
 (try simp only[aA])
 refine fU (fun h=>?_) (fun h=>?_)
 ·have hc:d*d≤n:=by simp at h;omega
  clear h
  have hdn:d≤n:=Nat.le_trans (Nat.le_mul_of_pos_left d (by omega)) hc
  have hmod:(n:Int).tmod (d:Int)=((n%d:Nat):Int):=by rw[Int.tmod_eq_emod_of_nonneg (by omega)];rfl
  (try simp only[aA])
  refine fU (fun h=>?_) (fun h=>?_)
  ·have hz:n%d=0:=by simp at h;omega
   clear h hmod
   (try simp only[aA])
   repeat' ((first|refine bW ?_|refine b7 rfl ?_);(try simp only[aA]))
   refine eh ?_
   exact⟨rfl,false,rfl,by simp;exact fun hp=>hp d h2 hc hz⟩
  ·have hz:n%d≠0:=by simp at h;omega
   clear h hmod
   (try simp only[aA])
   repeat' ((first|refine bW ?_|refine b7 rfl ?_);(try simp only[aA]))
   simp only[cE]
   refine⟨n+3-(d+1),by omega,d+1,by omega,by omega,rfl,by trivial,fun e h1 h3=>?_,(by first|rfl|(simp only[Int.natCast_add,Int.natCast_one];rfl)|simp only[Int.natCast_add,Int.natCast_one])⟩
   by_cases e2:e=d
   ·subst e2;exact fun _=>hz
   ·exact hno e h1 (by omega)
 ·have hc:¬ d*d≤n:=by simp at h;omega
  clear h
  (try simp only[aA])
  repeat' ((first|refine bW ?_|refine b7 rfl ?_);(try simp only[aA]))
  refine eh ?_
  refine⟨rfl,true,by simp[aJ];omega,?_⟩
  simp only[true_iff]
  intro e h1 h3
  refine hno e h1 ?_ h3
  apply Decidable.byContradiction
  intro hge
  exact hc (Nat.le_trans (Nat.mul_le_mul (show d≤e by omega) (show d≤e by omega)) h3)
theorem TP{lo:Nat}{H:Heap}{p:Int}{d:Nat}(hp:p<2^13)(hd1:1≤d)(hd:d≤12):Ev cp lo 157 [.int .i64 p,.int .i64 d] H (fun v H'=>H'=H∧∃b,v=.bool b∧(b=true↔0≤p∧ba p.toNat=d+1∧Irr p.toNat)):=by
 refine Mu ?_;unfold Cb vU;simp only[kB,aA]
 repeat' ((first|refine bW ?_|refine b7 rfl ?_);(try simp only[aA]))
 by_cases hneg:p<0
 ·refine au (gC) (by simp(disch:=first|omega|(simp only[aK];omega))only[evB,uN,Nat.reduceAdd,Nat.reduceBEq, *]) (gC) (fun h=>by simp[hneg]at h) (fun h=>?_)
  clear h
  (try simp only[aA])
  refine fU (fun h=>?_) (fun h=>?_)
  ·clear h
   (try simp only[aA])
   repeat' ((first|refine bW ?_|refine b7 rfl ?_);(try simp only[aA]))
   refine eh ?_
   exact⟨rfl,false,rfl,by simp;omega⟩
  ·simp at h
 obtain⟨n,rfl⟩:=Int.eq_ofNat_of_zero_le (show 0≤p by omega)
 rw[Int.toNat_natCast]
 have hn:=dt (show n<2^63 by omega)
 refine au (gC) (by simp(disch:=first|omega|(simp only[aK];omega))only[evB,uN,Nat.reduceAdd,Nat.reduceBEq, *]) (gC) (fun h=>⟨_,gC,?_⟩) (fun h=>by simp[hneg]at h)
 clear h
 refine aC (mj (p:=(n:Int)) (by omega)) ?_
 rintro v H1 ⟨rfl,rfl⟩
 rw[Int.toNat_natCast]
 (try simp only[aA])
 refine fU (fun h=>?_) (fun h=>?_)
 ·have hc:ba n≠d+1:=by simp at h;omega
  clear h
  (try simp only[aA])
  repeat' ((first|refine bW ?_|refine b7 rfl ?_);(try simp only[aA]))
  refine eh ?_
  exact⟨rfl,false,rfl,by simp;intro h1;exact absurd h1 hc⟩
 have hc:ba n=d+1:=by simp at h;omega
 clear h
 have hn0:n≠0:=by rintro rfl;rw[nh]at hc;omega
 have hlog:n.log2=d:=by rw[dU hn0]at hc;omega
 have hn2:2≤n:=by
  have:=fG hn0
  rw[hlog]at this
  have h2:2^1≤2^d:=Nat.pow_le_pow_right (by omega) hd1
  omega
 have hc':ba n≤d+1∧d+1≤ba n:=by omega
 have hlog':n.log2≤d∧d≤n.log2:=by omega
 clear hc hlog
 (try simp only[aA])
 repeat' ((first|refine bW ?_|refine b7 rfl ?_);(try simp only[aA]))
 refine bI (fun m S H'=>∃(q:Nat) (z4 z5 z6 z7:Value),2≤q∧q≤n+1∧m=n+2-q∧H1=H'∧(∀t,2≤t→t<q→2*t.log2≤n.log2→¬ ∃m,n=cl t m)∧S=[.int .i64 (n:Nat),.int .i64 (d:Nat),.bool false,.int .i64 (q:Nat),z4,z5,z6,z7]) n ?_ ?_
 ·exact⟨2,_,_,_,_,by omega,by omega,by omega,rfl,fun t h1 h2=>by omega,rfl⟩
 rintro m S H' ⟨q,z4,z5,z6,z7,hq2,hqp,rfl,rfl,hno,rfl⟩
 have hq0:q≠0:=by omega
 have hlq:=dU hq0
 have hlq3:=dt (show q<2^63 by omega)
 have hlq':ba q≤q.log2+1∧q.log2+1≤ba q:=by omega
 clear hlq
 (try simp only[aA])
 refine kR ?_
 refine aC (mj (p:=(q:Int)) (by omega)) ?_
 rintro v H2 ⟨rfl,rfl⟩
 rw[Int.toNat_natCast]
 (try simp only[aA])
 refine fU (fun h=>?_) (fun h=>?_)
 ·have hc:2*q.log2≤n.log2:=by simp at h;omega
  clear h
  have hlt:q<n:=by
   have h1:=nU hq2
   have h3:=cV q
   have h4:2^(q.log2+1)≤2^n.log2:=Nat.pow_le_pow_right (by omega) (by omega)
   have h5:=fG hn0
   omega
  (try simp only[aA])
  refine kR ?_
  refine aC (JU (p:=n) (q:=q) (by omega) (by omega) hq0) ?_
  rintro v H1 ⟨rfl,rfl⟩
  have hz:=A9 (p:=n) hq0
  (try simp only[aA])
  refine fU (fun h=>?_) (fun h=>?_)
  ·have hr:rm n q=0:=by simp at h;omega
   clear h
   (try simp only[aA])
   repeat' ((first|refine bW ?_|refine b7 rfl ?_);(try simp only[aA]))
   refine eh ?_
   exact⟨rfl,false,rfl,by simp;exact fun _ hi=>hi q hq2 hc (hz.1 hr)⟩
  ·have hr:rm n q≠0:=by simp at h;omega
   clear h
   (try simp only[aA])
   repeat' ((first|refine bW ?_|refine b7 rfl ?_);(try simp only[aA]))
   simp only[cE]
   refine⟨n+2-(q+1),by omega,q+1,_,_,_,_,by omega,by omega,rfl,by trivial,fun t h1 h3=>?_,(by first|rfl|(simp only[Int.natCast_add,Int.natCast_one];rfl)|simp only[Int.natCast_add,Int.natCast_one])⟩
   by_cases e:t=q
   ·subst e;exact fun _ hm=>hr (hz.2 hm)
   ·exact hno t h1 (by omega)
 ·have hc:n.log2<2*q.log2:=by simp at h;omega
  clear h
  (try simp only[aA])
  repeat' ((first|refine bW ?_|refine b7 rfl ?_);(try simp only[aA]))
  refine eh ?_
  refine⟨rfl,true,rfl,?_⟩
  simp only[true_iff]
  refine⟨by omega,by omega,?_⟩
  intro t h1 h3
  refine hno t h1 ?_ h3
  apply Decidable.byContradiction
  intro hge
  have:=wN (show q≤t by omega) hq0
  omega
theorem zN{sz d:Nat}(h:ba sz=d+1):2^d≤sz∧sz<2^(d+1):=by
 have h0:sz≠0:=by rintro rfl;rw[nh]at h;omega
 rw[dU h0]at h
 have h1:=fG h0
 have h2:=cV sz
 rw[show sz.log2=d by omega]at h1 h2
 exact⟨h1,h2⟩
theorem Ec{a b:Nat}(h:2^a=2^b):a=b:=by
 rcases Nat.lt_trichotomy a b with h1|h1|h1
 ·have:=Nat.pow_lt_pow_right (a:=2) (by omega) h1;omega
 ·exact h1
 ·have:=Nat.pow_lt_pow_right (a:=2) (by omega) h1;omega
set_option maxHeartbeats 1000000 in
theorem Ee{lo:Nat}{H:Heap}{ch sz po:Int}(hs:sz≤9223372036854775807):Ev cp lo 109 [fv ch sz po] H (fun v H'=>Ext H H'∧∃b,v=.bool b∧(b=true↔∃f,OkF ch sz po f)):=by
 unfold fv
 refine Pf ?_;unfold Bv vV;simp only[kB,aA]
 repeat' ((first|refine bW ?_|refine b7 rfl ?_);(try simp only[aA]))
 refine fU (fun h=>?_) (fun h=>?_)
 ·have hch:ch=2:=by simpa using h
  clear h
  subst hch
  (try simp only[aA])
  refine kR ?_
  refine aC (mj (p:=sz) hs) ?_
  rintro v H1 ⟨rfl,rfl⟩
  by_cases hd:2≤ba sz.toNat∧ba sz.toNat≤13
  ·obtain⟨d,hde⟩:∃d,ba sz.toNat=d+1:=⟨ba sz.toNat-1,by omega⟩
   rw[hde]at hd ⊢
   have e0:(((d+1:Nat):Int)-1)=(d:Int):=by omega
   rw[e0]
   have a1:=jb (a:=1) (k:=d) (by
    have:2^d≤2^12:=Nat.pow_le_pow_right (by omega) (by omega)
    omega) (by omega)
   have a2:=jb (a:=1) (k:=d+1) (by
    have:2^(d+1)≤2^13:=Nat.pow_le_pow_right (by omega) (by omega)
    omega) (by omega)
   rw[Nat.shiftLeft_eq,Nat.one_mul]at a1 a2
   have a1:IntKind.i64.wrap (1*2^min d IntKind.i64.bits)=((2^d:Nat):Int):=a1
   have a2:IntKind.i64.wrap (1*2^min (d+1) IntKind.i64.bits)=((2^(d+1):Nat):Int):=a2
   have hp13:2^(d+1)≤2^13:=Nat.pow_le_pow_right (by omega) (by omega)
   have e1:((d:Int)+1)=((d+1:Nat):Int):=by omega
   have n1:(1:Int)≤d:=by omega
   have n2:(d:Int)≤12:=by omega
   generalize hQ:2^d=Q at *
   generalize hQ2:2^(d+1)=Q2 at *
   (try simp only[aA])
   repeat' ((first|refine bW ?_|refine b7 rfl ?_);(try simp only[aA]))
   refine au (gC) (by simp(disch:=first|omega|(simp only[aK];omega))only[evB,uN,Nat.reduceAdd,Nat.reduceBEq, *]) (gC) (fun h=>?_) (fun h=>?_)
   ·have hcc:sz=(Q:Int)∧po<Q2:=by simp at h;omega
    refine⟨_,gC,?_⟩
    refine aC (TP (p:=po) (d:=d) (by omega) (by omega) (by omega)) ?_
    rintro v H3 ⟨rfl,b,rfl,hbb⟩
    (try simp only[aA])
    repeat' ((first|refine bW ?_|refine b7 rfl ?_);(try simp only[aA]))
    refine eh ?_
    refine⟨Ext.app _ _,b,by simp[aJ],?_⟩
    rw[hbb]
    constructor
    ·rintro⟨hp0,hpl,hi⟩
     have hpn0:po.toNat≠0:=by intro e;rw[e,nh]at hpl;omega
     have hplog:po.toNat.log2=d:=by rw[dU hpn0]at hpl;omega
     have:=zN hpl
     have h2d:2^1≤2^d:=Nat.pow_le_pow_right (by omega) (by omega)
     refine⟨⟨Q,po.toNat⟩,.inr ⟨hpn0,by simp;omega,by simp;omega,by simp;rw[hplog,hQ],hi⟩,by simp;omega,by simp;omega,?_⟩
     show(2:Int)=((if po.toNat=0 then Q else 2:Nat):Int)
     rw[if_neg hpn0];rfl
    ·rintro⟨f,hf,h1,h2,h3⟩
     have hf2:=hf
     rcases hf with ⟨e0,e1,_⟩|⟨e0,e1,e2,e3,hi⟩
     ·unfold FD.ch at h3;rw[if_pos e0]at h3;omega
     ·have hpp:po.toNat=f.poly:=by omega
      have hlog:f.poly.log2=d:=by
       have:2^f.poly.log2=2^d:=by rw[←e3,hQ];omega
       exact Ec this
      rw[hpp]
      exact⟨by omega,by rw[dU e0,hlog],hi⟩
   ·have hcc:¬ (sz=(Q:Int)∧po<Q2):=by
     rintro⟨h1,h2⟩
     simp[h1,h2,n1,n2]at h
    (try simp only[aA])
    repeat' ((first|refine bW ?_|refine b7 rfl ?_);(try simp only[aA]))
    refine eh ?_
    refine⟨Ext.app _ _,false,by simp[aJ],?_⟩
    simp only[Bool.false_eq_true,false_iff]
    rintro⟨f,hf,h1,h2,h3⟩
    apply hcc
    have hf2:=hf
    rcases hf with ⟨e0,e1,_⟩|⟨e0,e1,e2,e3,hi⟩
    ·unfold FD.ch at h3;rw[if_pos e0]at h3;omega
    ·have hsz:sz.toNat=2^f.poly.log2:=by omega
     have hlp:=zN hde
     rw[hsz]at hlp
     have k1:d≤f.poly.log2:=by
      have:2^d<2^(f.poly.log2+1):=Nat.lt_of_le_of_lt hlp.1 (Nat.pow_lt_pow_right (by omega) (by omega))
      have:=(Nat.pow_lt_pow_iff_right (by omega:1<2)).1 this
      omega
     have k2:f.poly.log2<d+1:=(Nat.pow_lt_pow_iff_right (by omega:1<2)).1 hlp.2
     have hl:f.poly.log2=d:=by omega
     rw[hl,hQ]at e3
     have:=cV f.poly
     rw[hl,hQ2]at this
     omega
  ·have hl2:=dt (show sz.toNat<2^63 by omega)
   have hnf:¬ ∃f,OkF 2 sz po f:=by
    rintro⟨f,hf,h1,h2,h3⟩
    rcases hf with ⟨e0,e1,_⟩|⟨e0,e1,e2,e3,hi⟩
    ·unfold FD.ch at h3;rw[if_pos e0]at h3;omega
    ·apply hd
     have hsz:sz.toNat=2^f.poly.log2:=by omega
     have hne:2^f.poly.log2≠0:=Nat.pos_iff_ne_zero.1 (Nat.pow_pos (by omega))
     rw[hsz,dU hne,kb (Nat.le_refl _) (Nat.pow_lt_pow_right (by omega) (by omega))]
     have:=nU e1
     omega
   generalize hL:ba sz.toNat=L at *
   have hT:(decide (1≤(L:Int)-1)&&decide ((L:Int)-1≤12))=false:=by
    rw[Bool.eq_false_iff]
    intro h
    simp at h
    omega
   have e1:¬ (1≤(L:Int)-1∧(L:Int)-1≤12):=by omega
   (try simp only[aA])
   repeat' ((first|refine bW ?_|refine b7 rfl ?_);(try simp only[aA]))
   refine au (gC) (by simp(disch:=first|omega|(simp only[aK];omega))only[evB,uN,Nat.reduceAdd,Nat.reduceBEq, *]) (gC) (fun h=>by cases h) (fun h=>?_)
   clear h
   (try simp only[aA])
   repeat' ((first|refine bW ?_|refine b7 rfl ?_);(try simp only[aA]))
   refine eh ?_
   exact⟨Ext.app _ _,false,rfl,by simpa using hnf⟩
 ·have hch:¬ ch=2:=by simpa using h
  clear h
  (try simp only[aA])
  refine au (gC) (by simp(disch:=first|omega|(simp only[aK];omega))only[evB,uN,Nat.reduceAdd,Nat.reduceBEq, *]) (gC) (fun h=>?_) (fun h=>?_)
  ·have hc:ch=sz∧po=0∧3≤sz∧sz≤4096:=by simp at h;omega
   obtain⟨n,hn⟩:∃n:Nat,(n:Int)=sz:=⟨sz.toNat,by omega⟩
   refine⟨_,gC,?_⟩
   refine aC (by rw[←hn];exact LJ (n:=n) (by omega) (by omega)) ?_
   rintro v H1 ⟨rfl,b,rfl,hb⟩
   (try simp only[aA])
   repeat' ((first|refine bW ?_|refine b7 rfl ?_);(try simp only[aA]))
   refine eh ?_
   refine⟨Ext.app _ _,b,by simp[aJ],?_⟩
   rw[hb,AU (by omega)]
   constructor
   ·intro hp
    exact⟨⟨n,0⟩,.inl ⟨rfl,by simp;omega,by simp;omega,hp⟩,by simp;omega,by simp;omega,by simp[FD.ch];omega⟩
   ·rintro⟨f,hf,h1,h2,h3⟩
    rcases hf with ⟨e0,e1,e2,e3⟩|⟨e0,e1,_⟩
    ·have:f.q=n:=by omega
     rw[←this];exact e3
    ·exfalso;omega
  ·have hc:¬ (ch=sz∧po=0∧3≤sz∧sz≤4096):=by
    rintro⟨h1,h2,h3,h4⟩
    simp[h1,h2,h3,h4]at h
   (try simp only[aA])
   repeat' ((first|refine bW ?_|refine b7 rfl ?_);(try simp only[aA]))
   refine eh ?_
   refine⟨Ext.app _ _,false,by simp[aJ],?_⟩
   simp only[Bool.false_eq_true,false_iff]
   rintro⟨f,hf,h1,h2,h3⟩
   rcases hf with ⟨e0,e1,e2,e3⟩|⟨e0,e1,_⟩
   ·apply hc
    unfold FD.ch at h3;rw[if_pos e0]at h3;omega
   ·unfold FD.ch at h3;rw[if_neg e0]at h3;omega
section
variable {f:FD}[OkC f]
theorem zR{lo:Nat}{H:Heap}(x y:El f):Ev cp lo 67 [fvf f,.int .i64 (x.val:Nat),.int .i64 (y.val:Nat)] H (fun v H'=>Ext H H'∧v=.int .i64 ((x+y).val:Nat)):=by
 have h2:=qle (f:=f)
 have hx:=x.lt
 have hy:=y.lt
 have hc:=oJ (OkC.ok (f:=f))
 rw[val_add]
 have e1:=fQ (a:=x.val) (b:=y.val) (by omega) (by omega)
 have e2:((x.val:Int)+(y.val:Int)).tmod (f.q:Int)=(((x.val+y.val)%f.q:Nat):Int):=by
  rw[Int.tmod_eq_emod_of_nonneg (by omega)];rfl
 unfold fvf fv
 refine VC ?_;unfold Lx Eh;simp only[kB,aA]
 repeat' ((first|refine bW ?_|refine b7 rfl ?_);(try simp only[aA]))
 refine fU (fun h=>?_) (fun h=>?_)
 ·have hp:f.poly≠0:=hc.1 (by simp at h;omega)
  clear h
  (try simp only[aA])
  repeat' ((first|refine bW ?_|refine b7 rfl ?_);(try simp only[aA]))
  refine eh ?_
  refine⟨Ext.app _ _,?_⟩
  unfold eJ
  rw[if_neg hp];rfl
 ·have hp:f.poly=0:=by
   apply Decidable.byContradiction
   intro h0
   have:=hc.2 h0
   simp at h;omega
  clear h
  (try simp only[aA])
  repeat' ((first|refine bW ?_|refine b7 rfl ?_);(try simp only[aA]))
  refine eh ?_
  refine⟨Ext.app _ _,?_⟩
  unfold eJ
  rw[if_pos hp];rfl
theorem qV{lo:Nat}{H:Heap}(x y:El f):Ev cp lo 68 [fvf f,.int .i64 (x.val:Nat),.int .i64 (y.val:Nat)] H (fun v H'=>Ext H H'∧v=.int .i64 ((x-y).val:Nat)):=by
 have h2:=qle (f:=f)
 have hx:=x.lt
 have hy:=y.lt
 have hs:(x-y).val=mF f x.val y.val:=(pD (OkC.ok (f:=f)) x.lt y.lt).symm
 have hc:=oJ (OkC.ok (f:=f))
 rw[hs]
 clear hs
 have e1:=fQ (a:=x.val) (b:=y.val) (by omega) (by omega)
 have e2:((x.val:Int)+f.q-y.val).tmod (f.q:Int)=(((x.val+f.q-y.val)%f.q:Nat):Int):=by
  rw[Int.tmod_eq_emod_of_nonneg (by omega),show(x.val:Int)+f.q-y.val=((x.val+f.q-y.val:Nat):Int) by omega];rfl
 unfold fvf fv
 refine VG ?_;unfold Lk CD;simp only[kB,aA]
 repeat' ((first|refine bW ?_|refine b7 rfl ?_);(try simp only[aA]))
 refine fU (fun h=>?_) (fun h=>?_)
 ·have hp:f.poly≠0:=hc.1 (by simp at h;omega)
  clear h
  (try simp only[aA])
  repeat' ((first|refine bW ?_|refine b7 rfl ?_);(try simp only[aA]))
  refine eh ?_
  refine⟨Ext.app _ _,?_⟩
  unfold mF
  rw[if_neg hp];rfl
 ·have hp:f.poly=0:=by
   apply Decidable.byContradiction
   intro h0
   have:=hc.2 h0
   simp at h;omega
  clear h
  (try simp only[aA])
  repeat' ((first|refine bW ?_|refine b7 rfl ?_);(try simp only[aA]))
  refine eh ?_
  refine⟨Ext.app _ _,?_⟩
  unfold mF
  rw[if_pos hp];rfl
theorem wW(b k:Nat):b%2^(k+1)=b%2^k ^^^ (if b/2^k%2=1 then 2^k else 0):=by
 apply Nat.eq_of_testBit_eq
 intro i
 rw[Nat.testBit_xor,Nat.testBit_mod_two_pow,Nat.testBit_mod_two_pow]
 by_cases hb:b/2^k%2=1
 ·rw[if_pos hb,Nat.testBit_two_pow]
  have hbk:=pH.1 hb
  by_cases h:i=k
  ·subst h;simp[hbk]
  ·have h1:decide (i<k+1)=decide (i<k):=by rw[Bool.eq_iff_iff];simp;omega
   have h2:decide (k=i)=false:=by simp;omega
   rw[h1,h2];simp
 ·rw[if_neg hb,Nat.zero_testBit]
  have hbk:b.testBit k=false:=by rw[Bool.eq_false_iff];exact fun h=>hb (pH.2 h)
  by_cases h:i=k
  ·subst h;simp[hbk]
  ·have h1:decide (i<k+1)=decide (i<k):=by rw[Bool.eq_iff_iff];simp;omega
   rw[h1];simp
theorem Gw{a b:Nat}(ha:a<4096)(hb:b<4096):cl a b<2^30:=by
 have h:=JT (a:=a) (b:=b)
 have key:∀n:Nat,n<4096→n.log2≤11:=by
  intro n hn
  by_cases h0:n=0
  ·rw[h0];decide
  ·have:=Nat.lt_of_le_of_lt (fG h0) (show n<2^12 by omega)
   have:=(Nat.pow_lt_pow_iff_right (by omega:1<2)).1 this
   omega
 have h1:=key a ha
 have h2:=key b hb
 exact Nat.lt_of_lt_of_le h (Nat.pow_le_pow_right (by omega) (by omega))
theorem fF{lo:Nat}{H:Heap}(x y:El f):Ev cp lo 69 [fvf f,.int .i64 (x.val:Nat),.int .i64 (y.val:Nat)] H (fun v H'=>Ext H H'∧v=.int .i64 ((x*y).val:Nat)):=by
 have h2:=qle (f:=f)
 have hx:=x.lt
 have hy:=y.lt
 have hc:=oJ (OkC.ok (f:=f))
 rw[val_mul]
 generalize x.val=a at *
 generalize y.val=b at *
 unfold fvf fv
 refine V2 ?_;unfold Kz EK;simp only[kB,aA]
 repeat' ((first|refine bW ?_|refine b7 rfl ?_);(try simp only[aA]))
 refine fU (fun h=>?_) (fun h=>?_)
 ·have hp:f.poly=0:=by
   apply Decidable.byContradiction
   intro h0
   have:=hc.2 h0
   simp at h;omega
  clear h
  have hm:=sj (a:=(a:Int)) (b:=(b:Int)) (A:=4096) (B:=4096) (by omega) (by omega) (by omega) (by omega) (by omega)
  have hmod:((a:Int)*(b:Int)).tmod (f.q:Int)=((a*b%f.q:Nat):Int):=by
   rw[←Int.natCast_mul,Int.tmod_eq_emod_of_nonneg (by omega)];rfl
  (try simp only[aA])
  repeat' ((first|refine bW ?_|refine b7 rfl ?_);(try simp only[aA]))
  refine eh ?_
  refine⟨Ext.app _ _,?_⟩
  unfold dw
  rw[if_pos hp];rfl
 have hp:f.poly≠0:=hc.1 (by simp at h;omega)
 clear h
 have hfm:dw f a b=rm (cl a b) f.poly:=by unfold dw;rw[if_neg hp]
 have hpb:=gW (OkC.ok (f:=f))
 have hpb2:f.poly<2^13:=by
  rcases(OkC.ok (f:=f))with ⟨e,_⟩|⟨_,hP,hP12,hq,hi⟩
  ·exact absurd e hp
  ·exact Nat.lt_of_lt_of_le (cV f.poly) (Nat.pow_le_pow_right (by omega) (by omega))
 rw[hfm]
 clear hfm
 generalize hG:H++_=G at *
 have g0:G.get H.length=some [Value.int .i64 (FD.ch f:Nat),Value.int .i64 (f.q:Nat),Value.int .i64 (f.poly:Nat)]:=by rw[←hG];exact aN
 have hxG:Ext H G:=by rw[←hG];exact Ext.app _ _
 clear hG
 (try simp only[aA])
 repeat' ((first|refine bW ?_|refine b7 rfl ?_);(try simp only[aA]))
 refine bI (fun m S H'=>G=H'∧∃(k:Nat) (z0 z7:Value),k≤12∧m=13-k∧S=[z0,.int .i64 (a:Nat),.int .i64 (b:Nat),.pointer (some ⟨H.length,0,none⟩),.int .i64 0,.int .i64 (cl a (b%2^k):Nat),.int .i64 (k:Nat),z7]) 13 ?_ ?_
 ·exact⟨rfl,0,_,_,by omega,by omega,by rw[show b%2^0=0 by omega,fP];rfl⟩
 rintro m S H' ⟨rfl,k,z0,z7,hk,rfl,rfl⟩
 have a1:=lD b k .i64 (by show k≤64;omega)
 have hdl:=Nat.div_le_self b (2^k)
 have a2:=px (b:=b/2^k) (by omega)
 have hak:a*2^k<2^24:=by
  have h1:2^k≤2^12:=Nat.pow_le_pow_right (by omega) hk
  have h3:a*2^k≤4095*2^12:=Nat.mul_le_mul (by omega) h1
  omega
 have a3:=jb (a:=a) (k:=k) (by omega) (by omega)
 have hmodle:=Nat.mod_le b (2^k)
 have hclb:=Gw (a:=a) (b:=b%2^k) (by omega) (by omega)
 have a4:=fQ (a:=cl a (b%2^k)) (b:=a <<< k) (by omega) (by rw[Nat.shiftLeft_eq];omega)
 have hmx:=wW b k
 (try simp only[aA])
 refine fU (fun h=>?_) (fun h=>?_)
 ·have hpos:b/2^k≠0:=by have h3:=of_decide_eq_true h;generalize b/2^k=z at *;omega
  clear h
  have hk11:k≤11:=by
   apply Decidable.byContradiction
   intro hcc
   apply hpos
   have:2^12≤2^k:=Nat.pow_le_pow_right (by omega) (by omega)
   exact Nat.div_eq_of_lt (by omega)
  (try simp only[aA])
  refine fU (fun h=>?_) (fun h=>?_)
  ·have hb:b/2^k%2=1:=by have h3:=of_decide_eq_true h;generalize b/2^k%2=z at *;omega
   clear h
   rw[if_pos hb]at hmx
   (try simp only[aA])
   repeat' ((first|refine bW ?_|refine b7 rfl ?_);(try simp only[aA]))
   simp only[cE]
   exact⟨13-(k+1),by omega,by trivial,k+1,_,_,by omega,rfl,by rw[hmx,jB,fe];first|rfl|(simp only[Int.natCast_add,Int.natCast_one];rfl)⟩
  ·have hb:¬ b/2^k%2=1:=by have h3:=of_decide_eq_false h;generalize b/2^k%2=z at *;omega
   clear h
   rw[if_neg hb,Nat.xor_zero]at hmx
   (try simp only[aA])
   repeat' ((first|refine bW ?_|refine b7 rfl ?_);(try simp only[aA]))
   simp only[cE]
   exact⟨13-(k+1),by omega,by trivial,k+1,_,_,by omega,rfl,by rw[hmx];first|rfl|(simp only[Int.natCast_add,Int.natCast_one];rfl)⟩
 ·have hz:b/2^k=0:=by have h3:=of_decide_eq_false h;generalize b/2^k=z at *;omega
  clear h
  have hbm:b%2^k=b:=by
   apply Nat.mod_eq_of_lt
   rcases Nat.div_eq_zero_iff.1 hz with h3|h3
   ·have:0<2^k:=Nat.pow_pos (by omega);omega
   ·exact h3
  rw[hbm]at hclb ⊢
  clear a1 a2 a3 a4 hmx
  (try simp only[aA])
  refine kR ?_
  refine aC (JU (p:=cl a b) (q:=f.poly) (by omega) (by omega) hp) ?_
  rintro v H1 ⟨rfl,rfl⟩
  (try simp only[aA])
  repeat' ((first|refine bW ?_|refine b7 rfl ?_);(try simp only[aA]))
  refine eh ?_
  exact⟨hxG,rfl⟩
end
theorem ris{lo:Nat}{H:Heap}{ch sz po x:Int}:Ev cp lo 110 [fv ch sz po,.int .i64 x] H (fun v H'=>Ext H H'∧v=.bool (decide (0≤x)&&decide (x<sz))):=by
 unfold fv
 refine QT ?_;unfold Cn vY;simp only[kB,aA]
 repeat' ((first|refine bW ?_|refine b7 rfl ?_);(try simp only[aA]))
 refine eh ?_
 exact⟨Ext.app _ _,rfl⟩
section
variable {f:FD}[OkC f]
theorem Ki(a:El f)(n:Nat):pw (a*a) n=pw a (2*n):=by
 rw[dW]
 congr 1
 rw[dq,mP]
def fvC(f:FD):List Value:=[.int .i64 (FD.ch f:Nat),.int .i64 (f.q:Nat),.int .i64 (f.poly:Nat)]
theorem xm{lo:Nat}{H:Heap}(a:El f)(n:Nat)(hn:n≤1000000000000):Ev cp lo 160 [fvf f,.int .i64 (a.val:Nat),.int .i64 n] H (fun v H'=>Ext H H'∧v=.int .i64 ((pw a n).val:Nat)):=by
 unfold fvf fv
 refine SB ?_;unfold Fv wQ;simp only[kB,aA]
 repeat' ((first|refine bW ?_|refine b7 rfl ?_);(try simp only[aA]))
 generalize hG:H++_=G at *
 have g0:G.get H.length=some (fvC f):=by rw[←hG];exact aN
 have hxG:Ext H G:=by rw[←hG];exact Ext.app _ _
 clear hG
 refine bI (fun m S H'=>Ext H H'∧H'.get H.length=some (fvC f)∧∃(x p:El f) (z0 z6 z7:Value),m≤n∧p*pw x m=pw a n∧S=[z0,.int .i64 (x.val:Nat),.int .i64 (m:Nat),.pointer (some ⟨H.length,0,none⟩),.int .i64 0,.int .i64 (p.val:Nat),z6,z7]) n ?_ ?_
 ·exact⟨hxG,g0,a,1,_,_,_,Nat.le_refl _,one_mul _,rfl⟩
 clear g0 hxG
 rintro m S H1 ⟨hx1,g0,x,p,z0,z6,z7,hm,hinv,rfl⟩
 unfold fvC at g0
 (try simp only[aA])
 refine fU (fun h=>?_) (fun h=>?_)
 ·have hm0:0<m:=by simpa using h
  clear h
  have e1:(m:Int).tmod 2=((m%2:Nat):Int):=by rw[Int.tmod_eq_emod_of_nonneg (by omega)];rfl
  have e2:(m:Int).tdiv 2=((m/2:Nat):Int):=by rw[Int.tdiv_eq_ediv_of_nonneg (by omega)];rfl
  (try simp only[aA])
  refine nj (fun S' H'=>Ext H H'∧H'.get H.length=some (fvC f)∧∃(z0 z6 z7:Value),S'=[z0,.int .i64 (x.val:Nat),.int .i64 (m:Nat),.pointer (some ⟨H.length,0,none⟩),.int .i64 0,.int .i64 ((if m%2=1 then p*x else p).val:Nat),z6,z7]) ?_ ?_
  ·refine fU (fun h=>?_) (fun h=>?_)
   ·have ho:m%2=1:=by simp at h;omega
    clear h
    (try simp only[aA])
    refine kR ?_
    refine aC (fF p x) ?_
    rintro v H2 ⟨hx2,rfl⟩
    have g0:=hx2.get g0
    (try simp only[aA])
    repeat' ((first|refine bW ?_|refine b7 rfl ?_);(try simp only[aA]))
    exact⟨hx1.trans hx2,g0,_,_,_,by rw[if_pos ho]⟩
   ·have ho:¬ m%2=1:=by simp at h;omega
    clear h
    (try simp only[aA])
    exact⟨hx1,g0,_,_,_,by rw[if_neg ho]⟩
  clear g0 hx1
  rintro S' H2 ⟨hx2,g0,z0,z6,z7,rfl⟩
  unfold fvC at g0
  generalize hp':(if m%2=1 then p*x else p)=p' at *
  (try simp only[aA])
  refine kR ?_
  refine aC (fF x x) ?_
  rintro v H3 ⟨hx3,rfl⟩
  have g0:=hx3.get g0
  (try simp only[aA])
  repeat' ((first|refine bW ?_|refine b7 rfl ?_);(try simp only[aA]))
  simp only[cE]
  refine⟨m/2,by omega,hx2.trans hx3,g0,x*x,p',_,_,_,by omega,?_,rfl⟩
  rw[←hinv,Ki,←hp']
  by_cases ho:m%2=1
  ·rw[if_pos ho,mul_assoc]
   congr 1
   obtain⟨k,rfl⟩:∃k,m=2*k+1:=⟨m/2,by omega⟩
   rw[show(2*k+1)/2=k by omega,dq,mul_comm]
  ·rw[if_neg ho,show 2*(m/2)=m by omega]
 ·have hm0:m=0:=by simp at h;omega
  clear h
  rw[hm0,eK,mul_one]at hinv
  (try simp only[aA])
  repeat' ((first|refine bW ?_|refine b7 rfl ?_);(try simp only[aA]))
  refine eh ?_
  exact⟨hx1,by rw[←hinv];rfl⟩
theorem Qd{a:El f}(ha:a≠0):pw a (f.q-1)=1:=by
 obtain⟨g,hg⟩:=SD (OkC.ok (f:=f))
 obtain⟨n,_,rfl⟩:=pow_sur (eY hg) (cU hg) ha
 rw[←dW,Nat.mul_comm,dW,(cU hg).2.1,gO]
theorem LS{a:El f}(ha:a≠0):pw a (f.q-2)=inv a:=by
 have h2:=qle (f:=f)
 symm
 apply lH
 rw[mul_comm,←dq,show f.q-2+1=f.q-1 by omega,Qd ha]
theorem kg{lo:Nat}{H:Heap}(a:El f)(ha:a≠0):Ev cp lo 126 [fvf f,.int .i64 (a.val:Nat)] H (fun v H'=>Ext H H'∧v=.int .i64 ((inv a).val:Nat)):=by
 have h2:=qle (f:=f)
 have e:((f.q:Int)-2)=((f.q-2:Nat):Int):=by omega
 rw[←LS ha]
 unfold fvf fv
 refine Ot ?_;unfold Fe wz;simp only[kB,aA]
 repeat' ((first|refine bW ?_|refine b7 rfl ?_);(try simp only[aA]))
 refine kR ?_
 refine aC (xm a (f.q-2) (by omega)) ?_
 rintro v H2 ⟨hx2,rfl⟩
 (try simp only[aA])
 repeat' ((first|refine bW ?_|refine b7 rfl ?_);(try simp only[aA]))
 refine eh ?_
 exact⟨hx2.of_app,rfl⟩
theorem LC{lo:Nat}{H:Heap}{a:El f}{n:Nat}(hn:Ord a n)(hn2:n<f.q):Ev cp lo 191 [fvf f,.int .i64 (a.val:Nat)] H (fun v H'=>Ext H H'∧v=.int .i64 n):=by
 have h2:=qle (f:=f)
 unfold fvf fv
 refine Oh ?_;unfold CT xZ;simp only[kB,aA]
 repeat' ((first|refine bW ?_|refine b7 rfl ?_);(try simp only[aA]))
 generalize hG:H++_=G at *
 have g0:G.get H.length=some (fvC f):=by rw[←hG];exact aN
 have hxG:Ext H G:=by rw[←hG];exact Ext.app _ _
 clear hG
 refine bI (fun m S H'=>∃(k:Nat) (z0 z6:Value),1≤k∧k≤n∧m=n-k∧Ext H H'∧H'.get H.length=some (fvC f)∧S=[z0,.int .i64 (a.val:Nat),.pointer (some ⟨H.length,0,none⟩),.int .i64 0,.int .i64 (k:Nat),.int .i64 ((pw a k).val:Nat),z6]) (n-1) ?_ ?_
 ·exact⟨1,_,_,by omega,hn.1,rfl,hxG,g0,by rw[mP];rfl⟩
 clear g0 hxG
 rintro m S H1 ⟨k,z0,z6,hk1,hkn,rfl,hx1,g0,rfl⟩
 unfold fvC at g0
 (try simp only[aA])
 refine fU (fun h=>?_) (fun h=>?_)
 ·have hne:(pw a k).val≠1:=by simp at h;omega
  clear h
  have hlt:k<n:=by
   apply Decidable.byContradiction
   intro hc
   have:k=n:=by omega
   rw[this,hn.2.1]at hne
   exact hne rfl
  (try simp only[aA])
  refine kR ?_
  refine aC (fF (pw a k) a) ?_
  rintro v H2 ⟨hx2,rfl⟩
  have g0:=hx2.get g0
  have hx2:=hx1.trans hx2
  (try simp only[aA])
  repeat' ((first|refine bW ?_|refine b7 rfl ?_);(try simp only[aA]))
  simp only[cE]
  exact⟨n-(k+1),by omega,k+1,_,_,by omega,by omega,rfl,hx2,g0,(by first|rfl|(simp only[Int.natCast_add,Int.natCast_one];rfl)|simp only[Int.natCast_add,Int.natCast_one])⟩
 ·have hkk:k=n:=by
   apply Decidable.byContradiction
   intro hc
   apply hn.2.2 k (by omega) (by omega)
   apply El.ext
   rw[Es]
   simp at h;omega
  clear h
  (try simp only[aA])
  repeat' ((first|refine bW ?_|refine b7 rfl ?_);(try simp only[aA]))
  refine eh ?_
  exact⟨hx1,by rw[←hkk];rfl⟩
theorem qd{lo:Nat}{H:Heap}{g:El f}(hg:Gn (OkC.ok (f:=f)) g):Ev cp lo 159 [fvf f] H (fun v H'=>Ext H H'∧v=.int .i64 (g.val:Nat)):=by
 have h2:=qle (f:=f)
 have hgl:=g.lt
 unfold fvf fv
 refine OR ?_;unfold GV ub;simp only[kB,aA]
 repeat' ((first|refine bW ?_|refine b7 rfl ?_);(try simp only[aA]))
 generalize hG:H++_=G at *
 have g0:G.get H.length=some (fvC f):=by rw[←hG];exact aN
 have hxG:Ext H G:=by rw[←hG];exact Ext.app _ _
 clear hG
 have hgp:=hg.pos
 refine bI (fun m S H'=>∃(k:Nat) (z0 z4 z5:Value),1≤k∧k≤g.val∧m=g.val-k∧Ext H H'∧H'.get H.length=some (fvC f)∧S=[z0,.pointer (some ⟨H.length,0,none⟩),.int .i64 0,.int .i64 (k:Nat),z4,z5]) (g.val-1) ?_ ?_
 ·exact⟨1,_,_,_,by omega,by omega,rfl,hxG,g0,rfl⟩
 clear g0 hxG
 rintro m S H1 ⟨k,z0,z4,z5,hk1,hkn,rfl,hx1,g0,rfl⟩
 obtain⟨n,hn,hnq⟩:∃n,Ord (⟨k,by omega⟩:El f) n∧n≤f.q-1:=by
  refine(OkC.ok (f:=f)).num.ord ⟨k,by omega⟩ (fun e=>?_)
  have:k=0:=congrArg El.val e
  omega
 unfold fvC at g0
 (try simp only[aA])
 refine fU (fun h=>?_) (fun h=>?_)
 rotate_left
 ·simp at h;omega
 clear h
 (try simp only[aA])
 refine kR ?_
 refine aQ (LC hn (by omega)) ?_
 rintro v H2 ⟨hx2,rfl⟩
 have g0:=hx2.get g0
 have hx2:=hx1.trans hx2
 (try simp only[aA])
 refine fU (fun h=>?_) (fun h=>?_)
 ·have he:n=f.q-1:=by simp at h;omega
  clear h
  have hkk:k=g.val:=by
   apply Decidable.byContradiction
   intro hc
   rw[he]at hn
   exact hg.min ⟨k,by omega⟩ hk1 (by show k<g.val;omega) hn
  (try simp only[aA])
  repeat' ((first|refine bW ?_|refine b7 rfl ?_);(try simp only[aA]))
  refine eh ?_
  exact⟨hx2,by rw[←hkk];rfl⟩
 ·have hne:n≠f.q-1:=by simp at h;omega
  clear h
  have hlt:k<g.val:=by
   apply Decidable.byContradiction
   intro hc
   have hkg:(⟨k,by omega⟩:El f)=g:=El.ext (by show k=g.val;omega)
   rw[hkg]at hn
   exact hne (Nat.dvd_antisymm (g8 hn (cU hg).2.1) (g8 (cU hg) hn.2.1))
  (try simp only[aA])
  repeat' ((first|refine bW ?_|refine b7 rfl ?_);(try simp only[aA]))
  simp only[cE]
  exact⟨g.val-(k+1),by omega,k+1,_,_,_,by omega,by omega,rfl,hx2,g0,(by first|rfl|(simp only[Int.natCast_add,Int.natCast_one];rfl)|simp only[Int.natCast_add,Int.natCast_one])⟩
end
section
variable {f:FD}[OkC f]
theorem xX(n:Nat)(F:Nat→El f):tab (n+1) F=tab n F++[F n]:=by simp[tab,List.range_succ]
theorem k0(l:List (El f))(x:El f):elL (l++[x])=elL l++[lY x]:=by simp[elL]
set_option linter.defProp false in
def GU:=And.intro @Int.cast_ofNat_Int (And.intro @fv.eq_1 (And.intro @fvf.eq_1 (And.intro @fvC.eq_1 (And.intro @cdC.eq_1 (And.intro @iL (And.intro @bM (And.intro @eI @fJ)))))))
theorem m0{P:Prop}(h:P:=by simp(disch:=first|omega|(simp only[aK];omega))only[evB,GU,Nat.reduceAdd,Nat.reduceBEq, *];rfl):P:=h
theorem gA{cp:FuncId→Option CF}{lo:Nat}{l:List (Nat×E)}{chk:List E}{Q:aS}{S:List Value}{H:Heap}{vs:List (Nat×Value)}{S':List Value}(k:Q .normal S' H)(h:evSets S H l=some vs:=by exact m0)(hc:evChk S H chk=true:=by simp(disch:=first|omega|(simp only[aK];omega))only[evB,GU,Nat.reduceAdd,Nat.reduceBEq, *])(hS:setAll S vs=S':=by exact m0):wpS cp lo (.sets l chk) Q S H:=cL h hc hS k
theorem mQ{cp:FuncId→Option CF}{lo:Nat}{l:List (Nat×E)}{chk:List E}{Q:aS}{S:List Value}{H:Heap}{vs:List (Nat×Value)}{dst:Option Nat}{o:HOp}{a:E}{xs:List Value}(k:wpH cp lo o xs H fun v H'=>Q .normal (setD (setAll S vs) dst v) H')(h:evSets S H l=some vs:=by exact m0)(hc:evChk S H chk=true:=by simp(disch:=first|omega|(simp only[aK];omega))only[evB,GU,Nat.reduceAdd,Nat.reduceBEq, *])(ha:ev S H a=some xs:=by exact m0):wpS cp lo (.hv l chk [] dst o a) Q S H:=eC h hc ha k
theorem ft{cp:FuncId→Option CF}{lo:Nat}{l:List (Nat×E)}{chk:List E}{Q:aS}{S:List Value}{H:Heap}{vs:List (Nat×Value)}{dst:Option Nat}{o:HOp}{a:E}{xs:List Value}{S':List Value}{H':Heap}{v:Value}(hcall:o.isCall=false)(k:Q .normal S' H')(h:evSets S H l=some vs:=by exact m0)(hc:evChk S H chk=true:=by simp(disch:=first|omega|(simp only[aK];omega))only[evB,GU,Nat.reduceAdd,Nat.reduceBEq, *])(ha:ev S H a=some xs:=by exact m0)(ho:bG lo o xs H=some (v,H'):=by exact m0)(hS:setD (setAll S vs) dst v=S':=by exact m0):wpS cp lo (.hv l chk [] dst o a) Q S H:=eG hcall h hc ha ho hS k
theorem Ls{cp:FuncId→Option CF}{lo:Nat}{c:E}{a b:Stm}{Q:aS}{S:List Value}{H:Heap}{t:Bool}(k1:t=true→wpS cp lo a Q S H)(k2:t=false→wpS cp lo b Q S H)(h:ev1 S H c=some (.bool t):=by exact m0):wpS cp lo (.cond c a b) Q S H:=cJ h k1 k2
theorem xe{cf:CF}{R:Value→Heap→Prop}{S:List Value}{H:Heap}{vs:List Value}(k:R (aJ vs) H)(h:evList S H cf.res=some vs:=by exact m0):aG cf R .ret S H:=bT h k
theorem LN{lo:Nat}{H:Heap}{g:El f}(hlo:lo≤H.length)(hg:Gn (OkC.ok (f:=f)) g)(r b:Nat)(hr:r≤100000000)(hb:b≤100000000):Ev cp lo 111 [cdV f r b] H (fun v H'=>Ext H H'∧SlE H' v (tab r (fun i=>pw g (b+i)))):=by
 unfold cdV
 refine O3 ?_;unfold F9 vh;simp only[kB,aA]
 repeat' ((first|refine gA ?_|refine ft rfl ?_);(try simp only[aA]))
 refine mQ ?_
 refine aC (qd hg) ?_
 rintro v H1 ⟨hx1,rfl⟩
 have g0:H1.get H.length=some _:=hx1.get (m0)
 have hx1:=hx1.of_app
 (try simp only[aA])
 repeat' ((first|refine gA ?_|refine ft rfl ?_);(try simp only[aA]))
 refine mQ ?_
 refine aC (xm g b (by omega)) ?_
 rintro v H2 ⟨hx2,rfl⟩
 have g0:=hx2.get g0
 have hx2:=hx1.trans hx2
 have hl2:=Heap.get_lt g0
 (try simp only[aA])
 repeat' ((first|refine gA ?_|refine ft rfl ?_);(try simp only[aA]))
 refine aU (fun i S H'=>Ext H H'∧H'.get H.length=some (cdC f r b)∧∃vd bd,H.length<bd∧Own lo 1 H' vd bd (elL (tab i (fun k=>pw g (b+k))))∧∃(z:Nat→Value),S=[z 0,.pointer (some ⟨H.length,0,none⟩),.slice none 0 0,.int .i64 (g.val:Nat),vd,.int .i64 ((pw g (b+i)).val:Nat),.int .i64 (i:Nat),z 7,z 8,z 9,z 10,z 11,z 12]) r ?_ ?_ ?_ ?_
 ·exact⟨hx2,g0,_,H2.length,by omega,Own.nil (by have:=hx2.1;omega),aL rfl⟩
 ·rintro i S H' hi ⟨hx,f0,vd,bd,hbd,hown,z,rfl⟩
  exact⟨_,m0,by simp⟩
 ·clear g0 hx2 hx1 hl2
  rintro i S H1 hi ⟨hx1,f0,vd,bd,hbd,hown,z,rfl⟩
  have hl1:=hx1.1
  have hml:=aE i (fun k=>pw g (b+k))
  (try simp only[aA])
  repeat' ((first|refine gA ?_|refine ft rfl ?_);(try simp only[aA]))
  refine mQ ?_
  refine dR (c:=[lY (pw g (b+i))]) (hown.mono (Ext.app _ _)) (by simp;omega) (by omega) (by omega) (by rw[bM,hml];omega) aN (by simp) rfl rfl ?_
  rintro v' H3 hown3 hk hl3
  have hE:=Ext.app H1 [some [Value.int .i64 ((pw g (b+i)).val:Nat)]]
  have hx3:=hk.ext (hx1.trans hE) (by omega)
  have f0:=hk.get (hE.get f0) (by omega)
  simp only[List.length_append,List.length_cons,List.length_nil]at hown3
  have hl3:=hx3.1
  clear hml
  (try simp only[aA])
  repeat' ((first|refine gA ?_|refine ft rfl ?_);(try simp only[aA]))
  refine mQ ?_
  refine aC (fF (pw g (b+i)) g) ?_
  rintro v H4 ⟨hx4,rfl⟩
  have f0:=hx4.get f0
  have hown4:=hown3.mono hx4
  have hx4:=hx3.trans hx4
  (try simp only[aA])
  repeat' ((first|refine gA ?_|refine ft rfl ?_);(try simp only[aA]))
  exact⟨hx4,f0,_,H1.length+(0+1),by omega,by rw[xX,k0];exact hown4,aL (by first|rfl|(simp only[Int.natCast_add,Int.natCast_one];rfl)|simp only[Int.natCast_add,Int.natCast_one])⟩
 ·rintro S H1 ⟨hx1,f0,vd,bd,hbd,hown,z,rfl⟩
  (try simp only[aA])
  repeat' ((first|refine gA ?_|refine ft rfl ?_);(try simp only[aA]))
  refine xe ?_
  exact⟨hx1,Sl.ofOwn hown⟩
theorem Kp{lo:Nat}{H:Heap}{v:Value}{w:List (El f)}(hlo:lo≤H.length)(hw:SlE H v w)(hwl:w.length≤1000000000)(x:El f):Ev cp lo 173 [fvf f,v,.int .i64 (x.val:Nat)] H (fun v H'=>Ext H H'∧v=.int .i64 ((cZ w x).val:Nat)):=by
 have hw0:=hw
 obtain⟨ad,c,rfl⟩:=hw.len
 unfold fvf fv
 refine Oa ?_;unfold DV xY;simp only[kB,aA]
 repeat' ((first|refine gA ?_|refine ft rfl ?_);(try simp only[aA]))
 generalize hG:H++_=G at *
 have g0:G.get H.length=some (fvC f):=by rw[←hG];exact aN
 have hxG:Ext H G:=by rw[←hG];exact Ext.app _ _
 clear hG
 refine aU (fun i S H'=>Ext H H'∧H'.get H.length=some (fvC f)∧∃z0 z7 z8 z9 z10,S=[z0,.slice ad w.length c,.int .i64 (x.val:Nat),.pointer (some ⟨H.length,0,none⟩),.int .i64 0,.int .i64 ((cZ (w.take i) x).val:Nat),.int .i64 (i:Nat),z7,z8,z9,z10]) w.length ?_ ?_ ?_ ?_
 ·exact⟨hxG,g0,_,_,_,_,_,rfl⟩
 ·rintro i S H' hi ⟨hx,f0,z0,z7,z8,z9,z10,rfl⟩
  exact⟨_,m0,by simp⟩
 ·clear g0 hxG
  rintro i S H1 hi ⟨hx1,f0,z0,z7,z8,z9,z10,rfl⟩
  obtain⟨b,o,sp,cap,xs,e,gx,hat,hxl⟩:=cK hw0 (by omega)
  cases e
  have gx:=hx1.get gx
  have hati:=hat i hi
  have hs:=kr hi x
  clear hat
  (try simp only[aA])
  refine mQ ?_
  refine aQ (fF (cZ (w.take i) x) x) ?_
  rintro v H2 ⟨hx2,rfl⟩
  have f0:=hx2.get f0
  have hx2:=hx1.trans hx2
  (try simp only[aA])
  refine mQ ?_
  refine aC (zR _ (co w i)) ?_
  rintro v H3 ⟨hx3,rfl⟩
  have f0:=hx3.get f0
  have hx3:=hx2.trans hx3
  (try simp only[aA])
  repeat' ((first|refine gA ?_|refine ft rfl ?_);(try simp only[aA]))
  exact⟨hx3,f0,_,_,_,_,_,by rw[hs];first|rfl|(simp only[Int.natCast_add,Int.natCast_one];rfl)|simp only[Int.natCast_add,Int.natCast_one]⟩
 ·rintro S H1 ⟨hx1,f0,z0,z7,z8,z9,z10,rfl⟩
  rw[List.take_length]
  (try simp only[aA])
  repeat' ((first|refine gA ?_|refine ft rfl ?_);(try simp only[aA]))
  refine xe ?_
  exact⟨hx1,rfl⟩
theorem Eg{lo:Nat}{H:Heap}{v:Value}{p:List (El f)}(hlo:lo≤H.length)(hp:SlE H v p)(hpl:p.length≤1000000000)(x:El f):Ev cp lo 125 [fvf f,v,.int .i64 (x.val:Nat)] H (fun v H'=>Ext H H'∧v=.int .i64 ((hor p x).val:Nat)):=by
 have hp0:=hp
 obtain⟨ad,c,rfl⟩:=hp.len
 unfold fvf fv
 refine OC ?_;unfold CI vy;simp only[kB,aA]
 repeat' ((first|refine gA ?_|refine ft rfl ?_);(try simp only[aA]))
 generalize hG:H++_=G at *
 have g0:G.get H.length=some (fvC f):=by rw[←hG];exact aN
 have hxG:Ext H G:=by rw[←hG];exact Ext.app _ _
 clear hG
 refine bI (fun m S H'=>∃(k:Nat) (z0 z7 z8 z9 z10:Value),k≤p.length∧m=k∧Ext H H'∧H'.get H.length=some (fvC f)∧S=[z0,.slice ad p.length c,.int .i64 (x.val:Nat),.pointer (some ⟨H.length,0,none⟩),.int .i64 0,.int .i64 ((hor (p.drop k) x).val:Nat),.int .i64 ((k:Int)-1),z7,z8,z9,z10]) p.length ?_ ?_
 ·exact⟨p.length,_,_,_,_,_,Nat.le_refl _,rfl,hxG,g0,by rw[List.drop_length];rfl⟩
 clear g0 hxG
 rintro m S H1 ⟨k,z0,z7,z8,z9,z10,hk,rfl,hx1,g0,rfl⟩
 have hl1:=hx1.1
 (try simp only[aA])
 refine Ls (fun h=>?_) (fun h=>?_)
 ·have hm0:0<m:=by simp at h;omega
  clear h
  obtain⟨n,rfl⟩:∃n,m=n+1:=⟨m-1,by omega⟩
  have hn:n<p.length:=by omega
  obtain⟨b,o,sp,cap,xs,e,gx,hat,hxl⟩:=cK hp0 (by omega)
  cases e
  have gx:=hx1.get gx
  have hati:=hat n hn
  have e1:(((n+1:Nat):Int)-1)=(n:Int):=by omega
  have hfd:=pz hn x
  rw[e1]
  clear hat
  (try simp only[aA])
  refine mQ ?_
  refine aQ (fF (hor (p.drop (n+1)) x) x) ?_
  rintro v H2 ⟨hx2,rfl⟩
  have g0:=hx2.get g0
  have hx2:=hx1.trans hx2
  have hl2:=hx2.1
  (try simp only[aA])
  refine mQ ?_
  refine aC (zR _ (co p n)) ?_
  rintro v H3 ⟨hx3,rfl⟩
  have g0:=hx3.get g0
  have hx3:=hx2.trans hx3
  (try simp only[aA])
  repeat' ((first|refine gA ?_|refine ft rfl ?_);(try simp only[aA]))
  simp only[cE]
  exact⟨n,by omega,n,_,_,_,_,_,by omega,rfl,hx3,g0,by rw[hfd]⟩
 ·have hm0:m=0:=by simp at h;omega
  clear h
  subst hm0
  (try simp only[aA])
  repeat' ((first|refine gA ?_|refine ft rfl ?_);(try simp only[aA]))
  refine xe ?_
  exact⟨hx1,rfl⟩
theorem qj{lo:Nat}{H:Heap}{g:El f}{v:Value}{w:List (El f)}(hlo:lo≤H.length)(hg:Gn (OkC.ok (f:=f)) g)(hw:SlE H v w)(hwl:w.length≤100000000)(r b:Nat)(hr:r≤100000000)(hb:b≤100000000) :
  Ev cp lo 122 [cdV f r b,v] H (fun v H'=>Ext H H'∧SlE H' v (eN g r b w)):=by
 have hw0:=hw
 obtain⟨aw,cw,rfl⟩:=hw.len
 unfold cdV
 refine RV ?_;unfold EB wU;simp only[kB,aA]
 repeat' ((first|refine gA ?_|refine ft rfl ?_);(try simp only[aA]))
 generalize hG:H++_=G at *
 have g0:G.get H.length=some (cdC f r b):=by rw[←hG];exact aN
 have hxG:Ext H G:=by rw[←hG];exact Ext.app _ _
 clear hG
 have hl0:=hxG.1
 refine mQ ?_
 refine aC (LN (by omega) hg r b hr hb) ?_
 rintro v H1 ⟨hx1,hroots⟩
 have g0:=hx1.get g0
 have hx1:=hxG.trans hx1
 have hr0:=hroots
 have hrl:=aE r (fun i=>pw g (b+i))
 obtain⟨ar,cr,rfl⟩:=hroots.len
 rw[hrl]
 have hl1:=Heap.get_lt g0
 (try simp only[aA])
 repeat' ((first|refine gA ?_|refine ft rfl ?_);(try simp only[aA]))
 refine aU (fun i S H'=>Ext H1 H'∧∃vd bd,H1.length≤bd∧Own lo 1 H' vd bd (elL (eN g i b w))∧∃(z:Nat→Value),S=[z 0,.slice aw w.length cw,.pointer (some ⟨H.length,0,none⟩),.slice none 0 0,.slice ar r cr,vd,.int .i64 (i:Nat),z 7,z 8,z 9,z 10,z 11]) r ?_ ?_ ?_ ?_
 ·exact⟨Ext.refl _,_,H1.length,Nat.le_refl _,Own.nil (by omega),aL rfl⟩
 ·rintro i S H' hi ⟨hx,vd,bd,hbd,hown,z,rfl⟩
  exact⟨_,m0,by simp⟩
 ·rintro i S H2 hi ⟨hx2,vd,bd,hbd,hown,z,rfl⟩
  have hl2:=hx2.1
  obtain⟨b',o,sp,cap,xs,e,gx,hat,hxl⟩:=cK hr0 (by rw[hrl];omega)
  cases e
  rw[hrl]at hat hxl
  have gx:=hx2.get gx
  have f0:=hx2.get g0
  have hati:=hat i hi
  have hco:co (tab r (fun i=>pw g (b+i))) i=pw g (b+i):=by rw[bS,if_pos hi]
  rw[hco]at hati
  clear hat
  (try simp only[aA])
  refine mQ ?_
  refine aC (Kp (by omega) (hw0.mono (hx1.trans hx2)) (by omega) (pw g (b+i))) ?_
  rintro v H3 ⟨hx3,rfl⟩
  have hown:=hown.mono hx3
  have hx3:=hx2.trans hx3
  have hl3:=hx3.1
  have hml:(eN g i b w).length=i:=aE _ _
  (try simp only[aA])
  repeat' ((first|refine gA ?_|refine ft rfl ?_);(try simp only[aA]))
  refine mQ ?_
  refine dR (c:=[lY (cZ w (pw g (b+i)))]) (hown.mono (Ext.app _ _)) (by simp;omega) (by omega) (by omega) (by rw[bM,hml];omega) aN (by simp) rfl rfl ?_
  rintro v' H4 hown4 hk hl4
  have hE:=Ext.app H3 [some [Value.int .i64 ((cZ w (pw g (b+i))).val:Nat)]]
  have hx4:=hk.ext (hx3.trans hE) (by omega)
  simp only[List.length_append,List.length_cons,List.length_nil]at hown4
  clear hml
  (try simp only[aA])
  repeat' ((first|refine gA ?_|refine ft rfl ?_);(try simp only[aA]))
  exact⟨hx4,_,H3.length+(0+1),by omega,by unfold eN;rw[xX,k0];exact hown4,aL (by first|rfl|(simp only[Int.natCast_add,Int.natCast_one];rfl)|simp only[Int.natCast_add,Int.natCast_one])⟩
 ·rintro S H2 ⟨hx2,vd,bd,hbd,hown,z,rfl⟩
  (try simp only[aA])
  repeat' ((first|refine gA ?_|refine ft rfl ?_);(try simp only[aA]))
  refine xe ?_
  exact⟨hx1.trans hx2,Sl.ofOwn hown⟩
theorem atV{lo:Nat}{H:Heap}{v:Value}{p:List (El f)}(hp:SlE H v p)(i:Nat):Ev cp lo 174 [v,.int .i64 i] H (fun v H'=>H'=H∧v=.int .i64 ((co p i).val:Nat)):=by
 have hp0:=hp
 obtain⟨ad,c,rfl⟩:=hp.len
 refine NM ?_;unfold Di xW;simp only[kB,aA]
 repeat' ((first|refine gA ?_|refine ft rfl ?_);(try simp only[aA]))
 refine Ls (fun h=>?_) (fun h=>?_)
 ·have hi:i<p.length:=by simp at h;omega
  clear h
  obtain⟨b',o,sp,cap,xs,e,gx,hat,hxl⟩:=cK hp0 (by omega)
  cases e
  have hati:=hat i hi
  clear hat
  (try simp only[aA])
  repeat' ((first|refine gA ?_|refine ft rfl ?_);(try simp only[aA]))
  refine xe ?_
  exact⟨rfl,rfl⟩
 ·have hi:p.length≤i:=by simp at h;omega
  clear h
  (try simp only[aA])
  repeat' ((first|refine gA ?_|refine ft rfl ?_);(try simp only[aA]))
  refine xe ?_
  exact⟨rfl,by rw[eT hi];rfl⟩
set_option maxHeartbeats 1000000 in
theorem Q6{lo:Nat}{H:Heap}{vp vq:Value}{p q:List (El f)}(hlo:lo≤H.length)(hp:SlE H vp p)(hq:SlE H vq q)(hpl:p.length≤100000000)(hql:q.length≤100000000)(n:Nat)(hn:n≤100000000)(c:El f) :
  Ev cp lo 175 [fvf f,vp,vq,.int .i64 (c.val:Nat),.int .i64 n] H (fun v H'=>Ext H H'∧∃b,H.length≤b∧v=.slice (some ⟨b,0,none⟩) (lZ p q n c).length (lZ p q n c).length∧H'.get b=some (elL (lZ p q n c))):=by
 have hp0:=hp
 have hq0:=hq
 have hrl:(lZ p q n c).length=max p.length (q.length+n):=aE _ _
 obtain⟨ap,cp',rfl⟩:=hp.len
 obtain⟨aq,cq,rfl⟩:=hq.len
 have hmx:=fun(H:Heap)=>za (H:=H) p.length (q.length+n)
 rw[hrl]
 unfold fvf fv
 have hN:max p.length (q.length+n)≤200000000:=by omega
 have hcast:((q.length:Int)+(n:Int))=((q.length+n:Nat):Int):=by omega
 refine Ob ?_;unfold Eu xM;simp only[kB,aA]
 repeat' ((first|refine gA ?_|refine ft rfl ?_);(try simp only[aA]))
 generalize hG:H++_=G at *
 have g0:G.get H.length=some (fvC f):=by rw[←hG];exact aN
 have g1:G.get (H.length+1)=some (elL (tab (max p.length (q.length+n)) (fun _=>(0:El f)))):=by rw[←hG,az,dK];rfl
 have hxG:Ext H G:=by rw[←hG];exact Ext.app _ _
 clear hG hmx hcast
 generalize hNe:max p.length (q.length+n)=N at *
 refine aU (fun i S H'=>Ext H H'∧H'.get H.length=some (fvC f)∧H'.get (H.length+1)=some (elL (tab N (fun k=>if k<i then co p k-c*sh n (co q) k else 0)))∧∃(z:Nat→Value),S=[z 0,.slice ap p.length cp',.slice aq q.length cq,.int .i64 (c.val:Nat),.int .i64 (n:Nat),.pointer (some ⟨H.length,0,none⟩),.slice none 0 0,.slice (some ⟨H.length+1,0,none⟩) N N,.int .i64 (i:Nat),z 9,z 10,z 11,z 12,z 13,z 14,z 15,z 16,z 17,z 18,z 19,z 20]) N ?_ ?_ ?_ ?_
 ·refine⟨hxG,g0,?_,aL rfl⟩
  rw[g1]
  refine congrArg (fun t=>some (elL t)) ?_
  exact aP fun k _=>(if_neg (by omega)).symm
 ·rintro i S H' hi ⟨hx,f0,f1,z,rfl⟩
  exact⟨_,m0,by simp⟩
 ·clear g0 g1 hxG
  rintro i S H1 hi ⟨hx1,f0,f1,z,rfl⟩
  have hset:(tab N (fun k=>if k<i then co p k-c*sh n (co q) k else 0)).set i (co p i-c*sh n (co q) i)=tab N (fun k=>if k<i+1 then co p k-c*sh n (co q) k else 0):=by
   rw[eQ]
   refine aP fun k hk=>?_
   by_cases e:k=i
   ·rw[if_pos e,if_pos (by omega),e]
   ·rw[if_neg e]
    by_cases h2:k<i
    ·rw[if_pos h2,if_pos (by omega)]
    ·rw[if_neg h2,if_neg (by omega)]
  have hlen2:(tab N (fun k=>if k<i then co p k-c*sh n (co q) k else 0)).length≤N∧N≤(tab N (fun k=>if k<i then co p k-c*sh n (co q) k else 0)).length:=by rw[aE];omega
  generalize tab N (fun k=>if k<i then co p k-c*sh n (co q) k else 0)=T at *
  (try simp only[aA])
  repeat' ((first|refine gA ?_|refine ft rfl ?_);(try simp only[aA]))
  refine nj (fun S H'=>Ext H1 H'∧∃z0 z10 z11 z12 z13 z14 z15 z16 z17 z18 z19 z20,S=[z0,.slice ap p.length cp',.slice aq q.length cq,.int .i64 (c.val:Nat),.int .i64 (n:Nat),.pointer (some ⟨H.length,0,none⟩),.slice none 0 0,.slice (some ⟨H.length+1,0,none⟩) N N,.int .i64 (i:Nat),.int .i64 ((c*sh n (co q) i).val:Nat),z10,z11,z12,z13,z14,z15,z16,z17,z18,z19,z20]) ?_ ?_
  ·refine Ls (fun h=>?_) (fun h=>?_)
   ·have hc:n≤i:=by simp at h;omega
    clear h
    have e1:((i:Int)-(n:Int))=((i-n:Nat):Int):=by omega
    have hsh:=fw (co q) hc
    (try simp only[aA])
    refine mQ ?_
    refine aQ (atV (hq0.mono hx1) (i-n)) ?_
    rintro v H2 ⟨rfl,rfl⟩
    (try simp only[aA])
    refine mQ ?_
    refine aC (fF c (co q (i-n))) ?_
    rintro v H3 ⟨hx3,rfl⟩
    (try simp only[aA])
    repeat' ((first|refine gA ?_|refine ft rfl ?_);(try simp only[aA]))
    exact⟨hx3,_,_,_,_,_,_,_,_,_,_,_,_,by rw[hsh]⟩
   ·have hc:i<n:=by simp at h;omega
    clear h
    have hsh:=kH (co q) hc
    (try simp only[aA])
    exact⟨Ext.refl _,_,_,_,_,_,_,_,_,_,_,_,_,by rw[hsh,mul_zero];rfl⟩
  rintro S H2 ⟨hx2,z0,z10,z11,z12,z13,z14,z15,z16,z17,z18,z19,z20,rfl⟩
  have f0:=(hx2).get f0;have f1:=(hx2).get f1
  have hx2:=hx1.trans hx2
  (try simp only[aA])
  refine mQ ?_
  refine aQ (atV (hp0.mono hx2) i) ?_
  rintro v H3 ⟨rfl,rfl⟩
  (try simp only[aA])
  refine mQ ?_
  refine aC (qV (co p i) (c*sh n (co q) i)) ?_
  rintro v H4 ⟨hx4,rfl⟩
  have f0:=(hx4).get f0;have f1:=(hx4).get f1
  have hx4:=hx2.trans hx4
  have hl4:=Heap.get_lt f1
  (try simp only[aA])
  repeat' ((first|refine gA ?_|refine ft rfl ?_);(try simp only[aA]))
  exact⟨hx4.set (by omega),by simp(disch:=first|omega|(simp only[aK];omega))only[evB,GU,Nat.reduceAdd,Nat.reduceBEq, *],by rw[aI (by omega)],aL (by first|rfl|(simp only[Int.natCast_add,Int.natCast_one];rfl)|simp only[Int.natCast_add,Int.natCast_one])⟩
 ·rintro S H1 ⟨hx1,f0,f1,z,rfl⟩
  (try simp only[aA])
  repeat' ((first|refine gA ?_|refine ft rfl ?_);(try simp only[aA]))
  refine xe ?_
  refine⟨hx1,H.length+1,by omega,rfl,?_⟩
  rw[f1]
  unfold lZ
  rw[hNe]
  exact congrArg (fun t=>some (elL t)) (aP fun k hk=>if_pos hk)
end
section
variable {f:FD}[OkC f]
set_option linter.defProp false in
def C5:=And.intro @Int.cast_ofNat_Int (And.intro @fv.eq_1 (And.intro @fvf.eq_1 (And.intro @fvC.eq_1 (And.intro @cdC.eq_1 (And.intro @iL (And.intro @bM (And.intro @eI (And.intro @fJ @ite_self.{1}))))))))
theorem mz{P:Prop}(h:P:=by simp(disch:=first|omega|(simp only[aK];omega))only[evB,C5,Nat.reduceAdd,Nat.reduceBEq, *];rfl):P:=h
theorem mC{cp:FuncId→Option CF}{lo:Nat}{l:List (Nat×E)}{chk:List E}{Q:aS}{S:List Value}{H:Heap}{vs:List (Nat×Value)}{S':List Value}(k:Q .normal S' H)(h:evSets S H l=some vs:=by exact mz)(hc:evChk S H chk=true:=by simp(disch:=first|omega|(simp only[aK];omega))only[evB,C5,Nat.reduceAdd,Nat.reduceBEq, *])(hS:setAll S vs=S':=by exact mz):wpS cp lo (.sets l chk) Q S H:=cL h hc hS k
theorem vf{cp:FuncId→Option CF}{lo:Nat}{l:List (Nat×E)}{chk:List E}{Q:aS}{S:List Value}{H:Heap}{vs:List (Nat×Value)}{dst:Option Nat}{o:HOp}{a:E}{xs:List Value}(k:wpH cp lo o xs H fun v H'=>Q .normal (setD (setAll S vs) dst v) H')(h:evSets S H l=some vs:=by exact mz)(hc:evChk S H chk=true:=by simp(disch:=first|omega|(simp only[aK];omega))only[evB,C5,Nat.reduceAdd,Nat.reduceBEq, *])(ha:ev S H a=some xs:=by exact mz):wpS cp lo (.hv l chk [] dst o a) Q S H:=eC h hc ha k
theorem mO{cp:FuncId→Option CF}{lo:Nat}{l:List (Nat×E)}{chk:List E}{Q:aS}{S:List Value}{H:Heap}{vs:List (Nat×Value)}{dst:Option Nat}{o:HOp}{a:E}{xs:List Value}{S':List Value}{H':Heap}{v:Value}(hcall:o.isCall=false)(k:Q .normal S' H')(h:evSets S H l=some vs:=by exact mz)(hc:evChk S H chk=true:=by simp(disch:=first|omega|(simp only[aK];omega))only[evB,C5,Nat.reduceAdd,Nat.reduceBEq, *])(ha:ev S H a=some xs:=by exact mz)(ho:bG lo o xs H=some (v,H'):=by exact mz)(hS:setD (setAll S vs) dst v=S':=by exact mz):wpS cp lo (.hv l chk [] dst o a) Q S H:=eG hcall h hc ha ho hS k
theorem II{cp:FuncId→Option CF}{lo:Nat}{c:E}{a b:Stm}{Q:aS}{S:List Value}{H:Heap}{t:Bool}(k1:t=true→wpS cp lo a Q S H)(k2:t=false→wpS cp lo b Q S H)(h:ev1 S H c=some (.bool t):=by exact mz):wpS cp lo (.cond c a b) Q S H:=cJ h k1 k2
theorem Pg{cf:CF}{R:Value→Heap→Prop}{S:List Value}{H:Heap}{vs:List Value}(k:R (aJ vs) H)(h:evList S H cf.res=some vs:=by exact mz):aG cf R .ret S H:=bT h k
set_option maxHeartbeats 4000000 in
theorem D7{lo:Nat}{H:Heap}{v:Value}{s:List (El f)}(hlo:lo≤H.length)(hs:SlE H v s)(hsl:s.length≤10000000) :
  Ev cp lo 124 [fvf f,v] H (fun v H'=>Ext H H'∧∃vl,v=.tuple #[vl,.int .i64 ((Reg.run (co s) s.length).L:Nat)]∧SlE H' vl (te s)):=by
 have hs0:=hs
 obtain⟨av,cv',rfl⟩:=hs.len
 unfold fvf fv
 refine QA ?_;unfold GM ue;simp only[kB,aA]
 repeat' ((first|refine mC ?_|refine mO rfl ?_);(try simp only[aA]))
 generalize hG:H++_=G at *
 have g0:G.get H.length=some (fvC f):=by rw[←hG];exact aN
 have g1:G.get (H.length+1)=some (elL (tab 1 (s1:Ser (El f)))):=by rw[←hG,az];rfl
 have g2:G.get (H.length+2)=some (elL (tab 1 (s1:Ser (El f)))):=by rw[←hG,az];rfl
 have hxG:Ext H G:=by rw[←hG];exact Ext.app _ _
 clear hG
 refine aU (fun n S H'=>Ext H H'∧H'.get H.length=some (fvC f)∧∃b1 b2,H'.get b1=some (elL (tab (bml (co s) n).1 (Reg.run (co s) n).C))∧H'.get b2=some (elL (tab (bml (co s) n).2 (Reg.run (co s) n).B))∧∃z0 z11 z12 z13 z14 z15 z16 z17 z18 z19 z20 z21 z22 z23 z24 z25 z26 z27 z28 z29 z30 z31,S=[z0,.slice av s.length cv',.pointer (some ⟨H.length,0,none⟩),.slice none 0 0,.int .i64 0,.slice (some ⟨b1,0,none⟩) (bml (co s) n).1 (bml (co s) n).1,.slice (some ⟨b2,0,none⟩) (bml (co s) n).2 (bml (co s) n).2,.int .i64 ((Reg.run (co s) n).L:Nat),.int .i64 ((Reg.run (co s) n).m:Nat),.int .i64 ((Reg.run (co s) n).b.val:Nat),.int .i64 (n:Nat),z11,z12,z13,z14,z15,z16,z17,z18,z19,z20,z21,z22,z23,z24,z25,z26,z27,z28,z29,z30,z31]) s.length ?_ ?_ ?_ ?_
 ·exact⟨hxG,g0,H.length+1,H.length+2,g1,g2,_,_,_,_,_,_,_,_,_,_,_,_,_,_,_,_,_,_,_,_,_,_,rfl⟩
 ·rintro n S H' hn ⟨hx,f0,b1,b2,f1,f2,z0,z11,z12,z13,z14,z15,z16,z17,z18,z19,z20,z21,z22,z23,z24,z25,z26,z27,z28,z29,z30,z31,rfl⟩
  exact⟨_,mz,by simp⟩
 ·clear g0 g1 g2 hxG
  rintro n S H1 hn ⟨hx1,f0,b1,b2,f1,f2,z0,z11,z12,z13,z14,z15,z16,z17,z18,z19,z20,z21,z22,z23,z24,z25,z26,z27,z28,z29,z30,z31,rfl⟩
  have hinv:=gD (co s) n
  obtain⟨hle1,hle2,hle3⟩:=mD (co s) n
  obtain⟨hz1,hz2,hpos⟩:=mZ (co s) n
  have hd:=A5 (s:=s) (n:=n) (lenC:=(Reg.run (co s) n).L+1) (Reg.run (co s) n).C hinv.gen.deg (fun i hi=>hinv.gen.deg i (by omega)) hle3
  rw[Nat.min_self]at hd
  have hbml:=bml.eq_2 (co s) n
  have hrun:Reg.run (co s) (n+1)=(Reg.run (co s) n).next (co s) n:=rfl
  unfold Reg.next at hrun
  have hb0:=hinv.b
  have hmp:=hinv.mp
  have hdeg:=hinv.gen.deg
  clear hinv
  generalize hR:Reg.run (co s) n=R at *
  generalize hl1:(bml (co s) n).1=l1 at *
  generalize hl2:(bml (co s) n).2=l2 at *
  have hcoC:∀i,co (tab l1 R.C) i=R.C i:=by
   intro i
   rw[bS]
   split
   ·rfl
   ·exact(hz1 i (by omega)).symm
  (try simp only[aA])
  repeat' ((first|refine mC ?_|refine mO rfl ?_);(try simp only[aA]))
  refine kl (fun S H'=>Ext H H'∧H'.get H.length=some (fvC f)∧H'.get b1=some (elL (tab l1 R.C))∧H'.get b2=some (elL (tab l2 R.B))∧∃j z0 z13 z14 z15 z16 z17 z18 z19 z20 z21 z22 z23 z24 z25 z26 z27 z28 z29 z30 z31,j=R.L+1∧S=[z0,.slice av s.length cv',.pointer (some ⟨H.length,0,none⟩),.slice none 0 0,.int .i64 0,.slice (some ⟨b1,0,none⟩) l1 l1,.slice (some ⟨b2,0,none⟩) l2 l2,.int .i64 (R.L:Nat),.int .i64 (R.m:Nat),.int .i64 (R.b.val:Nat),.int .i64 (n:Nat),.int .i64 ((sm j (fun i=>R.C i*co s (n-i))).val:Nat),.int .i64 (j:Nat),z13,z14,z15,z16,z17,z18,z19,z20,z21,z22,z23,z24,z25,z26,z27,z28,z29,z30,z31]) ?_ ?_
  ·refine aU (fun j S H'=>Ext H H'∧H'.get H.length=some (fvC f)∧H'.get b1=some (elL (tab l1 R.C))∧H'.get b2=some (elL (tab l2 R.B))∧∃z0 z13 z14 z15 z16 z17 z18 z19 z20 z21 z22 z23 z24 z25 z26 z27 z28 z29 z30 z31,S=[z0,.slice av s.length cv',.pointer (some ⟨H.length,0,none⟩),.slice none 0 0,.int .i64 0,.slice (some ⟨b1,0,none⟩) l1 l1,.slice (some ⟨b2,0,none⟩) l2 l2,.int .i64 (R.L:Nat),.int .i64 (R.m:Nat),.int .i64 (R.b.val:Nat),.int .i64 (n:Nat),.int .i64 ((sm j (fun i=>R.C i*co s (n-i))).val:Nat),.int .i64 (j:Nat),z13,z14,z15,z16,z17,z18,z19,z20,z21,z22,z23,z24,z25,z26,z27,z28,z29,z30,z31]) (R.L+1) ?_ ?_ ?_ ?_
   ·exact⟨hx1,f0,f1,f2,_,_,_,_,_,_,_,_,_,_,_,_,_,_,_,_,_,_,_,_,rfl⟩
   ·rintro j S H' hj ⟨hx,f0,f1,f2,z0,z13,z14,z15,z16,z17,z18,z19,z20,z21,z22,z23,z24,z25,z26,z27,z28,z29,z30,z31,rfl⟩
    exact⟨_,mz,by simp;omega⟩
   ·clear hx1 f0 f1 f2
    rintro j S H1 hj ⟨hx1,f0,f1,f2,z0,z13,z14,z15,z16,z17,z18,z19,z20,z21,z22,z23,z24,z25,z26,z27,z28,z29,z30,z31,rfl⟩
    obtain⟨bb,o,sp,cap,xs,e,gx,hat,hxl⟩:=cK hs0 (by omega)
    cases e
    have gx:=hx1.get gx
    have hatj:=hat (n-j) (by omega)
    have hnj:((n:Int)-(j:Int))=((n-j:Nat):Int):=by omega
    have hsm:=qb j (fun i=>R.C i*co s (n-i))
    have hl:=hx1.1
    have hs1:=aY (sp:=none) f1 (aE l1 R.C)
    have hcj:=hcoC j
    clear hat hd hbml hrun hR hl1 hl2 hcoC
    (try simp only[aA])
    refine vf ?_
    refine aQ (atV hs1 j) ?_
    rintro v H2 ⟨rfl,rfl⟩
    rw[hcj]
    (try simp only[aA])
    refine vf ?_
    refine aQ (fF (R.C j) (co s (n-j))) ?_
    rintro v H2 ⟨hx2,rfl⟩
    have f0:=(hx2).get f0;have f1:=(hx2).get f1;have f2:=(hx2).get f2
    have hx2:=hx1.trans hx2
    (try simp only[aA])
    refine vf ?_
    refine aC (zR (sm j (fun i=>R.C i*co s (n-i))) (R.C j*co s (n-j))) ?_
    rintro v H3 ⟨hx3,rfl⟩
    have f0:=(hx3).get f0;have f1:=(hx3).get f1;have f2:=(hx3).get f2
    have hx3:=hx2.trans hx3
    clear hnj
    (try simp only[aA])
    repeat' ((first|refine mC ?_|refine mO rfl ?_);(try simp only[aA]))
    exact⟨hx3,f0,f1,f2,_,_,_,_,_,_,_,_,_,_,_,_,_,_,_,_,_,_,_,_,by rw[hsm];first|rfl|(simp only[Int.natCast_add,Int.natCast_one];rfl)|simp only[Int.natCast_add,Int.natCast_one]⟩
   ·rintro S H1 ⟨hx1,f0,f1,f2,z0,z13,z14,z15,z16,z17,z18,z19,z20,z21,z22,z23,z24,z25,z26,z27,z28,z29,z30,z31,rfl⟩
    exact⟨hx1,f0,f1,f2,_,_,_,_,_,_,_,_,_,_,_,_,_,_,_,_,_,_,_,_,_,rfl,rfl⟩
  clear hx1 f0 f1 f2
  rintro S H1 ⟨hx1,f0,f1,f2,j,z0,z13,z14,z15,z16,z17,z18,z19,z20,z21,z22,z23,z24,z25,z26,z27,z28,z29,z30,z31,rfl,rfl⟩
  rw[hd]
  generalize hD:cv R.C (co s) n=d at *
  have hdl:=d.lt
  clear hd
  (try simp only[aA])
  refine II (fun h=>?_) (fun h=>?_)
  ·have hd0:d=0:=cm (by simp at h;omega)
   clear h
   rw[if_pos hd0]at hbml hrun
   (try simp only[aA])
   repeat' ((first|refine mC ?_|refine mO rfl ?_);(try simp only[aA]))
   exact⟨hx1,f0,b1,b2,by rw[hrun,hbml,hl1];exact f1,by rw[hrun,hbml,hl2];exact f2,_,_,_,_,_,_,_,_,_,_,_,_,_,_,_,_,_,_,_,_,_,_,by rw[hrun,hbml,hl1,hl2];first|rfl|(simp only[Int.natCast_add,Int.natCast_one];rfl)|simp only[Int.natCast_add,Int.natCast_one]⟩
  have hd0:d≠0:=fun e=>by rw[e,jZ]at h;simp at h
  clear h
  rw[if_neg hd0]at hbml hrun
  have hl:=hx1.1
  (try simp only[aA])
  refine vf ?_
  refine aQ (kg R.b hb0) ?_
  rintro v H2 ⟨hx2,rfl⟩
  have f0:=(hx2).get f0;have f1:=(hx2).get f1;have f2:=(hx2).get f2
  have hx2:=hx1.trans hx2
  (try simp only[aA])
  refine vf ?_
  refine aQ (fF d (inv R.b)) ?_
  rintro v H2' ⟨hx2',rfl⟩
  have f0:=(hx2').get f0;have f1:=(hx2').get f1;have f2:=(hx2').get f2
  have hx2:=hx2.trans hx2'
  clear hx2'
  have hl2':=hx2.1
  have hs1:=aY (sp:=none) f1 (aE l1 R.C)
  have hs2:=aY (sp:=none) f2 (aE l2 R.B)
  (try simp only[aA])
  refine vf ?_
  refine aC (Q6 (by omega) hs1 hs2 (by rw[aE];omega) (by rw[aE];omega) R.m (by omega) (d*inv R.b)) ?_
  rintro v H3 ⟨hx3,b3,hb3,rfl,f3⟩
  have f0:=(hx3).get f0;have f1:=(hx3).get f1;have f2:=(hx3).get f2
  have hx3:=hx2.trans hx3
  have hred:lZ (tab l1 R.C) (tab l2 R.B) R.m (d*inv R.b)=tab (max l1 (l2+R.m)) (fun i=>R.C i-d*inv R.b*sh R.m R.B i):=by
   unfold lZ
   rw[aE,aE]
   refine aP fun k hk=>?_
   rw[hcoC]
   congr 1
   congr 1
   unfold sh
   split
   ·rw[bS]
    split
    ·rfl
    ·exact(hz2 _ (by omega)).symm
   ·rfl
  rw[hred,aE]
  rw[hred]at f3
  clear hred hs1 hs2 hcoC
  have hcL:((n+1-R.L:Nat):Int)=(n:Int)+1-(R.L:Nat):=by omega
  (try simp only[aA])
  repeat' ((first|refine mC ?_|refine mO rfl ?_);(try simp only[aA]))
  by_cases hc:2*R.L≤n
  ·rw[if_pos hc]at hbml hrun
   refine II (fun h=>?_) (fun h=>?_)
   ·clear h
    (try simp only[aA])
    repeat' ((first|refine mC ?_|refine mO rfl ?_);(try simp only[aA]))
    exact⟨hx3,f0,b3,b1,by rw[hrun,hbml];exact f3,by rw[hrun,hbml];exact f1,_,_,_,_,_,_,_,_,_,_,_,_,_,_,_,_,_,_,_,_,_,_,by rw[hrun,hbml];simp only[hcL,Int.natCast_add,Int.natCast_one];rfl⟩
   ·simp at h;omega
  ·rw[if_neg hc]at hbml hrun
   refine II (fun h=>?_) (fun h=>?_)
   ·simp at h;omega
   ·clear h
    (try simp only[aA])
    repeat' ((first|refine mC ?_|refine mO rfl ?_);(try simp only[aA]))
    exact⟨hx3,f0,b3,b2,by rw[hrun,hbml];exact f3,by rw[hrun,hbml];exact f2,_,_,_,_,_,_,_,_,_,_,_,_,_,_,_,_,_,_,_,_,_,_,by rw[hrun,hbml];simp only[Int.natCast_add,Int.natCast_one];rfl⟩
 ·clear g0 g1 g2 hxG
  rintro S H1 ⟨hx1,f0,b1,b2,f1,f2,z0,z11,z12,z13,z14,z15,z16,z17,z18,z19,z20,z21,z22,z23,z24,z25,z26,z27,z28,z29,z30,z31,rfl⟩
  have hinv:=gD (co s) s.length
  obtain⟨hle1,hle2,hle3⟩:=mD (co s) s.length
  obtain⟨hz1,hz2,hpos⟩:=mZ (co s) s.length
  have hone:=hinv.gen.one
  have hloc:te s=trim (tab (bml (co s) s.length).1 (Reg.run (co s) s.length).C):=rfl
  generalize (Reg.run (co s) s.length).C=C at *
  generalize (bml (co s) s.length).1=l1 at *
  have hlen1:=aE l1 C
  have hlen1':(tab l1 C).length≤l1∧l1≤(tab l1 C).length:=by omega
  clear hinv hlen1 f2
  (try simp only[aA])
  refine bI (fun m S H'=>H1=H'∧∃(e:Nat) (z0 z1 z2 z3 z4 z6 z8 z9 z10 z11 z12 z13 z14 z15 z16 z17 z18 z19 z20 z21 z22 z23 z24 z25 z26 z27 z28 z29 z30 z31:Value),1≤e∧e≤l1∧m=e∧(∀i,e≤i→co (tab l1 C) i=0)∧S=[z0,z1,z2,z3,z4,.slice (some ⟨b1,0,none⟩) e l1,z6,.int .i64 ((Reg.run (co s) s.length).L:Nat),z8,z9,z10,z11,z12,z13,z14,z15,z16,z17,z18,z19,z20,z21,z22,z23,z24,z25,z26,z27,z28,z29,z30,z31]) l1 ?_ ?_
  ·exact⟨rfl,l1,_,_,_,_,_,_,_,_,_,_,_,_,_,_,_,_,_,_,_,_,_,_,_,_,_,_,_,_,_,_,hpos,Nat.le_refl _,rfl,fun i hi=>by rw[bS,if_neg (by omega)],rfl⟩
  rintro m S H' ⟨rfl,e,z0,z1,z2,z3,z4,z6,z8,z9,z10,z11,z12,z13,z14,z15,z16,z17,z18,z19,z20,z21,z22,z23,z24,z25,z26,z27,z28,z29,z30,z31,he1,hel,rfl,hze,rfl⟩
  have hm1:((m:Int)-1)=((m-1:Nat):Int):=by omega
  have hget:(tab l1 C).getD (m-1) 0=C (m-1):=de (by omega)
  (try simp only[aA])
  refine II (fun h=>?_) (fun h=>?_)
  ·have hz:C (m-1)=0:=cm (by simp at h;omega)
   clear h
   have hm2:2≤m:=by
    apply Decidable.byContradiction
    intro hc
    rw[show m-1=0 by omega,hone]at hz
    exact gM hz
   clear hget
   (try simp only[aA])
   repeat' ((first|refine mC ?_|refine mO rfl ?_);(try simp only[aA]))
   simp only[cE]
   refine⟨m-1,by omega,by trivial,m-1,_,_,_,_,_,_,_,_,_,_,_,_,_,_,_,_,_,_,_,_,_,_,_,_,_,_,_,_,_,_,by omega,by omega,rfl,fun i hi=>?_,rfl⟩
   by_cases e:i=m-1
   ·rw[e,bS,if_pos (by omega),hz]
   ·exact hze i (by omega)
  ·have hz:C (m-1)≠0:=fun e=>by rw[e,jZ]at h;simp at h
   clear h hm1 hget
   have htrim:te s=(tab l1 C).take m:=by
    rw[hloc,←lT (n:=m) (by rw[aE];omega) hze]
    have:=oG (l:=tab l1 C) (n:=m-1) (by rw[aE];omega) (by rw[bS,if_pos (by omega)];exact hz)
    rwa [show m-1+1=m by omega]at this
   clear hloc
   (try simp only[aA])
   repeat' ((first|refine mC ?_|refine mO rfl ?_);(try simp only[aA]))
   refine Pg ?_
   refine⟨hx1,_,rfl,?_⟩
   rw[htrim]
   have hml:((tab l1 C).take m).length=m:=by rw[List.length_take,aE];omega
   refine .inr ⟨b1,0,none,l1,_,?_,f1,?_,?_,.inl rfl,?_⟩
   ·rw[hml]
   ·rw[hml,List.drop_zero]
    simp[elL,List.map_take]
   ·rw[hml,bM,aE];omega
   ·rw[hml];exact hel
end
section
variable {f:FD}[OkC f]
theorem I9{H:Heap}(a b:Nat):aH (.minmax false) [.int .i64 (a:Int),.int .i64 (b:Int)] H=some (.int .i64 ((min a b:Nat):Int)):=by
 rw[Dn]
 congr 2
 split<;>omega
theorem Hu{H:Heap}(a b:Nat):aH (.minmax true) [.int .i64 0,.int .i64 ((a:Int)+(b:Int)-1)] H=some (.int .i64 ((a+b-1:Nat):Int)):=by
 rw[zB]
 congr 2
 split<;>omega
set_option maxHeartbeats 2000000 in
theorem nX{lo:Nat}{H:Heap}{vp vq:Value}{p q:List (El f)}(hlo:lo≤H.length)(hp:SlE H vp p)(hq:SlE H vq q)(hpl:p.length≤100000000)(hql:q.length≤100000000)(n:Nat)(hn:n≤100000000) :
  Ev cp lo 112 [fvf f,vp,vq,.int .i64 n] H (fun v H'=>Ext H H'∧∃b,H.length≤b∧v=.slice (some ⟨b,0,none⟩) (min n (p.length+q.length-1)) (min n (p.length+q.length-1))∧H'.get b=some (elL (tab (min n (p.length+q.length-1)) (cv (co p) (co q))))):=by
 have hp0:=hp
 have hq0:=hq
 obtain⟨ap,cp',rfl⟩:=hp.len
 obtain⟨aq,cq,rfl⟩:=hq.len
 have hmx:=fun(H:Heap)=>Hu (H:=H) p.length q.length
 have hmn:=fun(H:Heap)=>I9 (H:=H) n (p.length+q.length-1)
 have hN:min n (p.length+q.length-1)≤100000000:=by omega
 unfold fvf fv
 refine Oq ?_;unfold Ek xF;simp only[kB,aA]
 repeat' ((first|refine mC ?_|refine mO rfl ?_);(try simp only[aA]))
 generalize hG:H++_=G at *
 have g0:G.get H.length=some (fvC f):=by rw[←hG];exact aN
 have g1:G.get (H.length+1)=some (elL (tab (min n (p.length+q.length-1)) (fun _=>(0:El f)))):=by rw[←hG,az,dK];rfl
 have hxG:Ext H G:=by rw[←hG];exact Ext.app _ _
 clear hG hmx hmn
 generalize min n (p.length+q.length-1)=N at *
 refine aU (fun i S H'=>Ext H H'∧H'.get H.length=some (fvC f)∧H'.get (H.length+1)=some (elL (tab N (rows (co p) (co q) i)))∧∃(z:Nat→Value),S=[z 0,.slice ap p.length cp',.slice aq q.length cq,z 3,.pointer (some ⟨H.length,0,none⟩),.slice none 0 0,.slice (some ⟨H.length+1,0,none⟩) N N,.int .i64 (i:Nat),z 8,z 9,z 10,z 11,z 12,z 13,z 14,z 15]) p.length ?_ ?_ ?_ ?_
 ·exact⟨hxG,g0,g1,aL rfl⟩
 ·rintro i S H' hi ⟨hx,f0,f1,z,rfl⟩
  exact⟨_,mz,by simp⟩
 ·clear g0 g1 hxG
  rintro i S H1 hi ⟨hx1,f0,f1,z,rfl⟩
  obtain⟨b,o,sp,cap,xs,e,gx,hat,hxl⟩:=cK hp0 (by omega)
  cases e
  have hati:=hat i hi
  have hl1:=Heap.get_lt f1
  have hbH:=Heap.get_lt gx
  clear hat
  (try simp only[aA])
  repeat' ((first|refine mC ?_|refine mO rfl ?_);(try simp only[aA]))
  refine aU (fun j S H'=>Ext H H'∧H'.get H.length=some (fvC f)∧H'.get (H.length+1)=some (elL (tab N (fun k=>rows (co p) (co q) i k+(if i≤k∧k<i+j then co p i*co q (k-i) else 0))))∧∃(z:Nat→Value),S=[z 0,.slice (some ⟨b,o,sp⟩) p.length cp',.slice aq q.length cq,z 3,.pointer (some ⟨H.length,0,none⟩),.slice none 0 0,.slice (some ⟨H.length+1,0,none⟩) N N,.int .i64 (i:Nat),.int .i64 (j:Nat),z 9,z 10,z 11,z 12,z 13,z 14,z 15]) (min q.length (N-i)) ?_ ?_ ?_ ?_
  ·refine⟨hx1,f0,?_,aL rfl⟩
   rw[f1]
   congr 2
   refine aP fun k _=>?_
   rw[if_neg (by omega),add_zero]
  ·rintro j S H' hj ⟨hx,f0,f1,z,rfl⟩
   exact⟨_,mz,by simp;omega⟩
  ·clear f0 f1 hl1 hx1
   rintro j S H1 hj ⟨hx1,f0,f1,z,rfl⟩
   obtain⟨b',o',sp',cap',ys,e',gy,hay,hyl⟩:=cK hq0 (by omega)
   cases e'
   have gy:=hx1.get gy
   have gx:=hx1.get gx
   have hayj:=hay j (by omega)
   have hget:(tab N (fun k=>rows (co p) (co q) i k+(if i≤k∧k<i+j then co p i*co q (k-i) else 0))).getD (i+j) 0=rows (co p) (co q) i (i+j):=by
    rw[de (by omega),if_neg (by omega),add_zero]
   have hset:(tab N (fun k=>rows (co p) (co q) i k+(if i≤k∧k<i+j then co p i*co q (k-i) else 0))).set (i+j) (rows (co p) (co q) i (i+j)+co p i*co q j)=tab N (fun k=>rows (co p) (co q) i k+(if i≤k∧k<i+(j+1) then co p i*co q (k-i) else 0)):=by
    rw[eQ]
    refine aP fun k hk=>?_
    by_cases e:k=i+j
    ·rw[if_pos e,if_pos (by omega),e,show i+j-i=j by omega]
    ·rw[if_neg e]
     by_cases h2:i≤k∧k<i+j
     ·rw[if_pos h2,if_pos (by omega)]
     ·rw[if_neg h2,if_neg (by omega)]
   have hlen2:(tab N (fun k=>rows (co p) (co q) i k+(if i≤k∧k<i+j then co p i*co q (k-i) else 0))).length≤N∧N≤(tab N (fun k=>rows (co p) (co q) i k+(if i≤k∧k<i+j then co p i*co q (k-i) else 0))).length:=by rw[aE];omega
   generalize tab N (fun k=>rows (co p) (co q) i k+(if i≤k∧k<i+j then co p i*co q (k-i) else 0))=T at *
   have hin:((i:Int)+(j:Int))=((i+j:Nat):Int):=by omega
   have hl1:=Heap.get_lt f1
   clear hay
   (try simp only[aA])
   repeat' ((first|refine mC ?_|refine mO rfl ?_);(try simp only[aA]))
   refine vf ?_
   refine aQ (fF (co p i) (co q j)) ?_
   rintro v H2 ⟨hx2,rfl⟩
   have f0:=(hx2).get f0;have f1:=(hx2).get f1
   have hx2:=hx1.trans hx2
   (try simp only[aA])
   refine vf ?_
   refine aC (zR (rows (co p) (co q) i (i+j)) (co p i*co q j)) ?_
   rintro v H3 ⟨hx3,rfl⟩
   have f0:=(hx3).get f0;have f1:=(hx3).get f1
   have hx3:=hx2.trans hx3
   have hl3:=Heap.get_lt f1
   clear hget
   (try simp only[aA])
   repeat' ((first|refine mC ?_|refine mO rfl ?_);(try simp only[aA]))
   exact⟨hx3.set (by omega),by simp(disch:=first|omega|(simp only[aK];omega))only[evB,C5,Nat.reduceAdd,Nat.reduceBEq, *],by rw[aI (by omega)],aL (by first|rfl|(simp only[Int.natCast_add,Int.natCast_one];rfl)|simp only[Int.natCast_add,Int.natCast_one])⟩
  ·clear f0 f1 hl1 hx1
   rintro S H1 ⟨hx1,f0,f1,z,rfl⟩
   (try simp only[aA])
   repeat' ((first|refine mC ?_|refine mO rfl ?_);(try simp only[aA]))
   refine⟨hx1,f0,?_,aL (by first|rfl|(simp only[Int.natCast_add,Int.natCast_one];rfl)|simp only[Int.natCast_add,Int.natCast_one])⟩
   rw[f1]
   congr 2
   refine aP fun k hk=>?_
   rw[rQ]
   congr 1
   by_cases h1:i≤k
   ·rw[fw _ h1]
    by_cases h2:k<i+min q.length (N-i)
    ·rw[if_pos ⟨h1,h2⟩]
    ·rw[if_neg (by omega),eT (l:=q) (by omega),mul_zero]
   ·rw[if_neg (by omega),kH _ (by omega),mul_zero]
 ·rintro S H1 ⟨hx1,f0,f1,z,rfl⟩
  (try simp only[aA])
  repeat' ((first|refine mC ?_|refine mO rfl ?_);(try simp only[aA]))
  refine Pg ?_
  refine⟨hx1,H.length+1,by omega,rfl,?_⟩
  rw[f1]
  congr 2
  exact aP fun k hk=>ze (fun i hi=>eT hi) k
theorem mm(x:El f):(0:El f)-x=-x:=zero_add _
end
end Go.Proofs.YtmnlgdpdgjbfgaaGreat
