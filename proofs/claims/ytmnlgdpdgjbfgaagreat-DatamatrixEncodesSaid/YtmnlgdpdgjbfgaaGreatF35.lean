/- Lemmas. -/
import Derived.Test.YtmnlgdpdgjbfgaaGreatF13
import Derived.Test.YtmnlgdpdgjbfgaaGreatF18
import Derived.Test.YtmnlgdpdgjbfgaaGreatF19
import Derived.Test.YtmnlgdpdgjbfgaaGreatF26
import Derived.Test.YtmnlgdpdgjbfgaaGreatF29
import Derived.Test.YtmnlgdpdgjbfgaaGreatF31
import Derived.Test.YtmnlgdpdgjbfgaaGreatF34
set_option linter.all false
namespace Go.Proofs.YtmnlgdpdgjbfgaaGreat
open Go.Abs
variable{p:List UInt8}{i:Nat}
set_option maxRecDepth 20000
def eN(i k:Nat):RN:=⟨i+k,4,k%4,0,false⟩
def ec(k:Nat):Nat:=if k=3 then 0 else 1
def y31(i k:Nat):RS:=⟨31,-1,-1,ec k,asR (i+k)⟩
def yc(p:List UInt8)(i k:Nat):RS:=⟨by' p (i+k)%64,-1,-1,ec k,eN i (k+1)⟩
theorem mn{N i k:Nat}(h:i+k<=N):(eN i k).ok N:=by
 exact⟨h,by simp[eN],⟨by grind[eN],fun e=>absurd rfl e,fun e=>by grind[eN]⟩,by simp[eN],fun _=>⟨rfl,rfl⟩⟩
theorem iz{i k:Nat}(hk:k<4):bx p (eN i k)=[y31 i k]++if i+k<p.length/\32<=by' p (i+k)/\by' p (i+k)<=94 then[yc p i k] else[]:=by
 have e1:me (eN i k)=ec k:=by
  have:k=0\/k=1\/k=2\/k=3:=byO;rcases this with rfl|rfl|rfl|rfl<;>rfl
 have e2:(⟨i+k+1,4,(k%4+1)%4,0,false⟩:RN)=eN i (k+1):=by
  grind[eN]
 have h:bx p (eN i k)=[⟨31,-1,-1,me (eN i k),asR (i+k)⟩]++if i+k<p.length/\32<=by' p (i+k)/\by' p (i+k)<=94 then[⟨by' p (i+k)%64,-1,-1,me (eN i k),⟨i+k+1,4,(k%4+1)%4,0,false⟩⟩] else[]:=rfl
 rw[h,e1,e2];rfl
theorem rS{i k:Nat}:¬ rU p (eN i k):=fun e=>by have:=e.1;grind[eN]
theorem xh{p:List UInt8}{C:List Nat}(h:SolR p C){i:Nat}:∀d k,d+k=4->i+k<=p.length->Cn C (eN i k)<1099511627776 ->
  ∃j,(k<=j/\j<=4)/\(∀l,k<=l->l<j->okC p i l/\de p (eN i l) C=yc p i l/\Cn C (eN i l)=ec l+Cn C (eN i (l+1))/\Cn C (eN i l)<1099511627776)/\(j<4->de p (eN i j) C=y31 i j/\Cn C (eN i j)=ec j+Cn C (asR (i+j))/\Cn C (eN i j)<1099511627776)/\i+j<=p.length
 | 0,k,hk,hi,hf=>by
  have:k=4:=byO;subst this;exact⟨4,byO,fun l h1 h2=>byO,fun e=>byO,hi⟩
 | d+1,k,hk,hi,hf=>by
  obtain⟨hx,ht,_⟩:=kT h (mn hi) hf rS;have hti:eX C (de p (eN i k) C)=(de p (eN i k) C).c+Cn C (de p (eN i k) C).to:=rfl;rw[hti]at ht;replace ht:(de p (eN i k) C).c+Cn C (de p (eN i k) C).to=Cn C (eN i k):=ht;rw[iz byO]at hx;rcases List.mem_append.1 hx with hx|hx
  ·have hx:=List.mem_singleton.1 hx
   rw[hx]at ht;exact⟨k,byO,fun l h1 h2=>byO,fun _=>⟨hx,ht.symm,hf⟩,hi⟩
  ·split at hx
   ·rename_i hc
    have hx:=List.mem_singleton.1 hx;rw[hx]at ht;replace ht:ec k+Cn C (eN i (k+1))=Cn C (eN i k):=ht;obtain⟨j,h1,h2,h3,h4⟩:=xh (i:=i) h d (k+1) byO byO byO;refine⟨j,byO,fun l g1 g2=>?_,h3,h4⟩;by_cases e:l=k
    ·subst e
     exact⟨hc,hx,ht.symm,hf⟩
    ·exact h2 l byO g2
   ·cases hx
def oE(p:List UInt8)(i j:Nat):Opt:=if j<4 then fu (64*gA p i j+31) (j+1) (i+j) 0 else fu (gA p i 4) 4 (i+4) 18
theorem xf{p:List UInt8}{i j:Nat}:∀k n,n+k=4->n<=j->j<=4->(∀l,n<=l->l<j->okC p i l)->oE p i j ∈ jA p i k n (gA p i n)
 | 0,n,h,h1,h2,_=>by
  grind[oE,jA]
 | k+1,n,h,h1,h2,hc=>by
  simp only[jA];by_cases e:j=n
  ·grind[oE]
  ·refine List.mem_cons_of_mem _ ?_
   have hcn:=hc n (Nat.le_refl _) byO;unfold okC at hcn;rw[if_pos hcn];exact xf k (n+1) byO byO h2 fun l g1 g2=>hc l byO g2
theorem rT{o:Opt}:o ∈ pJ p i↔∃j,j<=4/\(∀l,l<j->okC p i l)/\o=oE p i j:=by
 constructor
 ·intro h
  rcases BL (p:=p) (a:=i) 4 0 rfl h with ⟨j,h1,h2,h3,h4⟩|⟨h3,h4⟩
  ·exact⟨j,byO,fun l hl=>h3 l byO hl,by grind[oE]⟩
  ·exact⟨4,byO,fun l hl=>h3 l byO hl,by assumption⟩
 ·rintro⟨j,h1,h2,rfl⟩
  exact xf 4 0 rfl byO h1 fun l _ hl=>h2 l hl
def szE(j:Nat):Nat:=if j<4 then(6*(j+1)+7)/8 else 3
theorem AO{C:List Nat}{i j:Nat}(hj:j<=4):n7 C (oE p i j)=szE j+Cn C (if j<4 then asR (i+j) else eN i 4):=by
 unfold oE szE;split
 all_goals rfl
def csE(j:Nat):Nat:=if j<4 then j else 3
theorem yt{A B j sa sb:Nat}(hj:j<4)(h:A/2^(6*(3-j))<B/2^(6*(3-j)))(hB:B<16777216)(ha:(6*(j+1)+7)/8<=sa)(hb:(6*(j+1)+7)/8<=sb) :
  df ([A/65536,A/256%256,A%256].take sa) ([B/65536,B/256%256,B%256].take sb)<0:=by
 have h3:j=0\/j=1\/j=2\/j=3:=byO;obtain⟨a,rfl⟩:∃a,sa=a+1:=⟨sa-1,byO⟩;obtain⟨b,rfl⟩:∃b,sb=b+1:=⟨sb-1,byO⟩;rw[List.take_succ_cons,List.take_succ_cons];by_cases e1:A/65536<B/65536
 ·exact gB e1
 rcases h3 with rfl|rfl|rfl|rfl
 ·omega
 ·simp only[Nat.reduceSub,Nat.reducePow]at h
  have e2:A/65536=B/65536:=byO;rw[e2,fD];obtain⟨a,rfl⟩:∃a',a=a'+1:=⟨a-1,byO⟩;obtain⟨b,rfl⟩:∃b',b=b'+1:=⟨b-1,byO⟩;exact gB byO
 ·simp only[Nat.reduceSub,Nat.reduceMul]at h
  have e2:A/65536=B/65536:=byO;rw[e2,fD];obtain⟨a,rfl⟩:∃a',a=a'+2:=⟨a-2,byO⟩;obtain⟨b,rfl⟩:∃b',b=b'+2:=⟨b-2,byO⟩;rw[List.take_succ_cons,List.take_succ_cons,List.take_succ_cons,List.take_succ_cons];by_cases e3:A/256%256<B/256%256
  ·exact gB e3
  ·have e4:A/256%256=B/256%256:=byO
   rw[e4,fD];exact gB byO
 ·simp only[Nat.reduceSub,Nat.mul_zero]at h
  have e2:A/65536=B/65536:=byO;rw[e2,fD];obtain⟨a,rfl⟩:∃a',a=a'+2:=⟨a-2,byO⟩;obtain⟨b,rfl⟩:∃b',b=b'+2:=⟨b-2,byO⟩;rw[List.take_succ_cons,List.take_succ_cons,List.take_succ_cons,List.take_succ_cons];by_cases e3:A/256%256<B/256%256
  ·exact gB e3
  ·have e4:A/256%256=B/256%256:=byO
   rw[e4,fD];exact gB byO
def vE(p:List UInt8)(i j:Nat):Nat:=if j<4 then(64*gA p i j+31)*2^(6*(3-j)) else gA p i 4
theorem Lx{i j:Nat}(hj:j<=4):hd (oE p i j)=[vE p i j/65536,vE p i j/256%256,vE p i j%256].take (szE j):=by
 have:j=0\/j=1\/j=2\/j=3\/j=4:=byO;rcases this with rfl|rfl|rfl|rfl|rfl
 ·rfl
 ·rfl
 ·rfl
 ·rfl
 ·show[gA p i 4*1/65536,gA p i 4*1/256%256,gA p i 4*1%256].take 3=_
  rw[Nat.mul_one];rfl
theorem GX{i j j':Nat}(h:j<j')(h':j'<=4):(31<by' p (i+j)%64->df (hd (oE p i j)) (hd (oE p i j'))<0)/\(by' p (i+j)%64<31->df (hd (oE p i j')) (hd (oE p i j))<0):=by
 have g0:gA p i 0=0:=rfl;have g1:gA p i 1=64*gA p i 0+by' p (i+0)%64:=rfl;have g2:gA p i 2=64*gA p i 1+by' p (i+1)%64:=rfl;have g3:gA p i 3=64*gA p i 2+by' p (i+2)%64:=rfl;have g4:gA p i 4=64*gA p i 3+by' p (i+3)%64:=rfl;have b0:by' p (i+0)%64<64:=Nat.mod_lt _ (by decide);have b1:by' p (i+1)%64<64:=Nat.mod_lt _ (by decide);have b2:by' p (i+2)%64<64:=Nat.mod_lt _ (by decide);have b3:by' p (i+3)%64<64:=Nat.mod_lt _ (by decide);rw[Lx byO,Lx h'];have key:(by' p (i+j)%64=vE p i j'/2^(6*(3-j))-64*gA p i j)/\64*gA p i j<=vE p i j'/2^(6*(3-j))/\vE p i j/2^(6*(3-j))=64*gA p i j+31/\vE p i j<16777216/\vE p i j'<16777216:=by
  have hj:j=0\/j=1\/j=2\/j=3:=byO;have hj':j'=1\/j'=2\/j'=3\/j'=4:=byO;rcases hj with rfl|rfl|rfl|rfl
  all_goals rcases hj' with rfl|rfl|rfl|rfl
  all_goals first|(exfalso;omega)|skip
  all_goals simp only[vE,Nat.reduceLT,Nat.lt_irrefl,if_true,if_false,Nat.reduceSub,Nat.reduceMul,Nat.reducePow,Nat.mul_zero,Nat.pow_zero,Nat.mul_one,Nat.div_one]
  all_goals refine⟨?_,?_,?_,?_,?_⟩
  all_goals grind
 have hsz:(6*(j+1)+7)/8<=szE j/\(6*(j+1)+7)/8<=szE j':=by
  grind[szE]
 obtain⟨k1,k2,k3,k4,k5⟩:=key;refine⟨fun e=>yt (j:=j) byO ?_ k5 hsz.1 hsz.2,fun e=>yt (j:=j) byO ?_ k4 hsz.2 hsz.1⟩
 all_goals omega
def chE(p:List UInt8)(i j:Nat):List Nat:=(List.range j).map fun k=>by' p (i+k)%64
theorem xH(p:List UInt8)(i j:Nat):chE p i (j+1)=chE p i j++[by' p (i+j)%64]:=by
 grind[chE,List.range_succ]
theorem IG(p:List UInt8)(i j:Nat):(chE p i j).length=j:=by simp[chE]
theorem F3{A L:List Nat}{B:Nat}(ha:∀k,A.getD k 0<B)(hl:∀k,L.getD k 0<B):∀k,(A++L).getD k 0<B:=by
 intro k;by_cases hk:k<A.length
 ·have:=ha k
  grind
 simp_all[aw₀]
theorem E2(p:List UInt8)(i:Nat):∀j k,(chE p i j).getD k 0<64
 | 0,k=>by simp[chE]
 | j+1,k=>by
  rw[xH];exact mG (E2 p i j) (Nat.mod_lt _ (by decide)) k
theorem Je{i j:Nat}(hj:j<=4):cQ (chE p i j++if j<4 then[31] else[])=hd (oE p i j):=by
 have b0:by' p (i+0)%64<64:=Nat.mod_lt _ (by decide);have b1:by' p (i+1)%64<64:=Nat.mod_lt _ (by decide);have b2:by' p (i+2)%64<64:=Nat.mod_lt _ (by decide);have b3:by' p (i+3)%64<64:=Nat.mod_lt _ (by decide);have g1:gA p i 1=by' p (i+0)%64:=by show 64*0+by' p (i+0)%64=_;rw[Nat.mul_zero,Nat.zero_add]
 have g2:gA p i 2=64*gA p i 1+by' p (i+1)%64:=rfl;have g3:gA p i 3=64*gA p i 2+by' p (i+2)%64:=rfl;have g4:gA p i 4=64*gA p i 3+by' p (i+3)%64:=rfl;have:j=0\/j=1\/j=2\/j=3\/j=4:=byO;rcases this with rfl|rfl|rfl|rfl|rfl
 ·show cQ [31]=hd (fu (64*0+31) 1 (i+0) 0)
  rw[Rq (x:=i+0) (md:=0) (by decide)]
 ·show cQ [by' p (i+0)%64,31]=hd (fu (64*gA p i 1+31) 2 (i+1) 0)
  rw[g1,Rr b0 (by decide)]
 ·show cQ [by' p (i+0)%64,by' p (i+1)%64,31]=hd (fu (64*gA p i 2+31) 3 (i+2) 0)
  rw[g2,g1,Rs b0 b1 (by decide)]
 ·show cQ [by' p (i+0)%64,by' p (i+1)%64,by' p (i+2)%64,31]=hd (fu (64*gA p i 3+31) 4 (i+3) 0)
  rw[g3,g2,g1,MD b0 b1 b2 (by decide)]
 ·show cQ [by' p (i+0)%64,by' p (i+1)%64,by' p (i+2)%64,by' p (i+3)%64]=hd (fu (gA p i 4) 4 (i+4) 18)
  rw[g4,g3,g2,g1,MD b0 b1 b2 b3]
theorem Fp{a b:RS}(h:a.w<b.w):dt a b=true:=by
 grind[dt]
theorem AQ{i k:Nat}(h:okC p i k):by' p (i+k)%64≠31:=by
 grind[okC]
theorem NR{C:List Nat}(h:SolR p C){n:RN}(hn:n.ok p.length)(hm:n.m=4)(hp:n.ph=0)(hf:Cn C n<1099511627776):∃o,ChO p C n o:=by
 have hne:n=eN n.i 0:=by
  obtain⟨hs,hu⟩:=hn.s.2 (.inr byO);obtain⟨i,m,ph,s,u⟩:=n;simp only at hm hp hs hu;subst hm hp hs hu;rfl
 have hni:=hn.i;generalize n.i=i at hne hni;subst hne;have hop:∀{o},o ∈ iI p (eN i 0).i (stO (eN i 0))↔o ∈ pJ p i:=Iff.rfl;obtain⟨j,⟨_,hj⟩,hc,hend,hij⟩:=xh (i:=i) h 4 0 rfl hni hf;have hcost:∀k,k<=j->Cn C (eN i 0)=csE k+Cn C (eN i k):=by
  intro k
  induction k with
  | zero=>grind[csE]
  | succ k ih=>
   grind[csE,ec]
 have hsz:∀k,k<4->szE k=csE k+ec k:=by
  intro k hk;have:k=0\/k=1\/k=2\/k=3:=byO;rcases this with rfl|rfl|rfl|rfl<;>rfl
 refine⟨oE p i j,hop.2 (rT.2 ⟨j,hj,fun l hl=>(hc l (Nat.zero_le _) hl).1,rfl⟩),?_,?_,?_⟩
 ·rw[AO hj]
  have h1:=hcost j (Nat.le_refl _);by_cases h4:j<4
  ·grind
  ·have:j=4:=byO
   subst this;rw[if_neg h4,h1];rfl
 ·intro o' ho' ht'
  obtain⟨j',hj',hc',rfl⟩:=rT.1 (hop.1 ho');rw[AO hj']at ht';by_cases e:j'=j
  ·simp_all
  ·refine .inr ?_
   have hcl:∀k,k<=j'->i+k<=p.length:=by
    grind[okC]
   by_cases hlt:j'<j
   ·have h4:j'<4:=byO
    rw[if_pos h4]at ht';obtain⟨c1,c2,c3,c4⟩:=hc j' (Nat.zero_le _) hlt;obtain⟨_,_,hle⟩:=kT h (mn (i:=i) (k:=j') (hcl j' (Nat.le_refl _))) c4 rS;rw[c2]at hle;have k1:=hle (y31 i j') (by grind[iz]) (by
     show ec j'+Cn C (asR (i+j'))=Cn C (eN i j')
     grind)
    have k2:=AQ c1;refine(GX hlt hj).2 ?_
    grind[Fp,y31,yc]
   ·have hlt:j<j':=byO
    have h4:j<4:=byO;obtain⟨e1,e2,e3⟩:=hend h4;have c1:=hc' j hlt;obtain⟨_,_,hle⟩:=kT h (mn (i:=i) (k:=j) hij) e3 rS;rw[e1]at hle;have hdown:∀d k,k+d=j'->j<=k->csE k+Cn C (eN i k)<=szE j'+Cn C (if j'<4 then asR (i+j') else eN i 4):=by
     intro d
     induction d with
     | zero=>
      intro k hk _;have:k=j':=byO;subst this;by_cases hk4:k<4
      ·rw[if_pos hk4]
       have:=mm h (mn (i:=i) (k:=k) (hcl k (Nat.le_refl _))) (x:=y31 i k) (by grind[iz])
       grind[y31]
      ·have:k=4:=byO
       subst this;exact Nat.le_refl _
     | succ d ih=>
      intro k hk hjk;have h1:=ih (k+1) byO byO;have hk4:k<4:=byO;have hok:=hc' k byO;have h2:=mm h (mn (i:=i) (k:=k) (hcl k byO)) (x:=yc p i k) (by
       grind[iz,okC])
      have h5:(yc p i k).c+Cn C (yc p i k).to=ec k+Cn C (eN i (k+1)):=rfl;have h3:csE (k+1)=csE k+ec k:=by
       unfold csE ec
       grind
      omega
    have hj1:=hdown (j'-(j+1)) (j+1) byO byO;have h3:csE (j+1)=csE j+ec j:=by
     grind[csE,ec]
    have hcj:=hcost j (Nat.le_refl _);have hmem:yc p i j ∈ bx p (eN i j):=by
     grind[iz,okC]
    have hup:=mm h (mn (i:=i) (k:=j) hij) hmem;have h5:(yc p i j).c+Cn C (yc p i j).to=ec j+Cn C (eN i (j+1)):=rfl;have k1:=hle (yc p i j) hmem (by
     show ec j+Cn C (eN i (j+1))=Cn C (eN i j);omega)
    have k2:=AQ c1;refine(GX hlt hj').1 ?_
    grind[Fp,yc,y31]
 ·intro f W Pt hm2 hP4 _ hpv
  have hP4:=hP4 rfl;have hrun:∀k,k<=j->∃f1,mea C (eN i k)<f1/\mf p C f (eN i 0) W Pt=mf p C f1 (eN i k) W (Pt++chE p i k):=by
   intro k
   induction k with
   | zero=>intro _;exact⟨f,hm2,by simp[chE]⟩
   | succ k ih=>
    intro hk;obtain⟨f1,h1,h2⟩:=ih byO;obtain⟨c1,c2,c3,c4⟩:=hc k (Nat.zero_le _) byO;obtain⟨f2,h3,h4⟩:=iq h (mn (i:=i) (k:=k) byO) c4 rS h1 W (Pt++chE p i k)
    grind[eQ,eN,yc,AQ,xH]
  obtain⟨f1,h1,h2⟩:=hrun j (Nat.le_refl _);have hpk:=Je (p:=p) (i:=i) hj;have hemt:emit p (W++cQ Pt).length (eN i 0).i (oE p i j)=hd (oE p i j):=by
   unfold emit;rw[if_pos (by unfold oE;split<;>rfl)]
  rw[hemt];by_cases h4:j<4
  ·obtain⟨e1,e2,e3⟩:=hend h4
   obtain⟨f2,h5,h6⟩:=iq h (mn (i:=i) (k:=j) hij) e3 rS h1 W (Pt++chE p i j);rw[e1]at h5 h6;have hnd:ndO (oE p i j).nx (oE p i j).md=asR (i+j):=by unfold oE;rw[if_pos h4];rfl
   have hem:eQ p (eN i j) (y31 i j) W (Pt++chE p i j)=(W++cQ (Pt++chE p i j++[31]),[]):=by
    rfl
   rw[hem]at h6;rw[hnd];refine⟨f2,_,[],h5,h2.trans h6,?_,fun _=>rfl,fun _=>rfl,by simp⟩;rw[if_pos h4]at hpk;show W++cQ (Pt++chE p i j++[31])++cQ []=_;rw[show cQ []=[] from rfl,List.append_nil,ba₀,u5 hP4,hpk,ba₀]
  ·have:j=4:=byO
   subst this;have hnd:ndO (oE p i 4).nx (oE p i 4).md=eN i 4:=rfl;rw[hnd];refine⟨f1,W,Pt++chE p i 4,h1,h2,?_,fun _=>by grind[IG],fun e=>absurd rfl e,F3 hpv (E2 p i 4)⟩
   grind[u5]
theorem BB{C:List Nat}(h:SolR p C){n:RN}(hn:n.ok p.length)(hp:n.ph=0)(hf:Cn C n<1099511627776)(he:¬ rU p n):∃o,ChO p C n o:=by
 have:=hn.m;by_cases h0:n.m=0
 ·simp_all[NQ]
 ·by_cases h4:n.m=4
  ·simp_all[NR]
  ·exact NS h hn byO hp hf
theorem G0{C:List Nat}(h:SolR p C){n:RN}(hn:n.ok p.length)(hp:n.ph=0){o:Opt}(ho:o ∈ iI p n.i (stO n)):Cn C n<=n7 C o:=by
 have hm:=hn.m;by_cases h0:n.m=0
 ·have hst:stO n=0:=by unfold stO;rw[if_pos h0]
  rw[hst]at ho;obtain⟨y,hy,hpr⟩:=As (show o ∈ ji p n.i from ho);rw[<-(AZ (C:=C) hpr).1];exact mm h hn (by unfold bx;rw[if_pos h0];exact hy)
 ·by_cases h4:n.m=4
  ·obtain⟨hs,hu⟩:=hn.s.2 (.inr byO)
   have hni:=hn.i;have hne:n=eN n.i 0:=by
    obtain⟨i,m,ph,s,u⟩:=n;simp only at h4 hp hs hu;subst h4 hp hs hu;rfl
   generalize n.i=i at hne hni;subst hne;obtain⟨j,hj,hc,rfl⟩:=rT.1 (show o ∈ pJ p i from ho);have hcl:∀k,k<=j->i+k<=p.length:=by
    intro k hk;by_cases e0:k=0
    ·subst e0;exact hni
    ·have:=hc (k-1) byO
     unfold okC at this;omega
   have hsz:∀k,k<4->szE k=csE k+ec k:=by
    intro k hk;have:k=0\/k=1\/k=2\/k=3:=byO;rcases this with rfl|rfl|rfl|rfl<;>rfl
   have hdown:∀d k,k+d=j->csE k+Cn C (eN i k)<=szE j+Cn C (if j<4 then asR (i+j) else eN i 4):=by
    intro d
    induction d with
    | zero=>
     intro k hk;have:k=j:=byO;subst this;by_cases hk4:k<4
     ·rw[if_pos hk4]
      have:=mm h (mn (i:=i) (k:=k) (hcl k (Nat.le_refl _))) (x:=y31 i k) (by rw[iz hk4];simp);have h5:(y31 i k).c+Cn C (y31 i k).to=ec k+Cn C (asR (i+k)):=rfl;have:=hsz k hk4;omega
     ·have:k=4:=byO
      subst this;exact Nat.le_refl _
    | succ d ih=>
     intro k hk;have h1:=ih (k+1) byO;have hk4:k<4:=byO;have hok:=hc k byO;have h2:=mm h (mn (i:=i) (k:=k) (hcl k byO)) (x:=yc p i k) (by
      rw[iz hk4];unfold okC at hok;rw[if_pos hok];simp)
     have h5:(yc p i k).c+Cn C (yc p i k).to=ec k+Cn C (eN i (k+1)):=rfl;have h3:csE (k+1)=csE k+ec k:=by
      unfold csE ec;have:k=0\/k=1\/k=2\/k=3:=byO;rcases this with rfl|rfl|rfl|rfl<;>rfl
     omega
   have:=hdown j 0 byO;rw[AO hj];have e0:csE 0=0:=rfl;omega
  ·have hm3:1<=n.m/\n.m<=3:=byO
   rcases(yT hn hm3 hp).1 ho with rfl|⟨u,v,w,t,⟨t1,t2,⟨g1,g2,g3⟩,hu,hv,hw⟩,rfl⟩
   ·exact mm h hn (x:=⟨254,-1,-1,1,⟨n.i,0,0,0,false⟩⟩) (by rw[kI hm3];exact yE hp 40)
   ·obtain⟨l1,l2,l3⟩:=Ak h hn hm3 hp g1 g2 g3 hu hv hw
    obtain⟨c1,c2,c3⟩:=wv hn hm3 hp ⟨t1,t2,⟨g1,g2,g3⟩,hu,hv,hw⟩;have e0:n7 C (jh u v w t.i (stO t))=2+0+Cn C (ndO t.i (stO t)):=rfl;rw[e0,pT c1 c3];omega
theorem PI{C:List Nat}(h:SolR p C){a st m:Nat}(hp:Pth p a st m):Cn C (ndO a st)<=m:=by
 induction hp with
 | nil=>exact mC h 0 p.length byO
 | @cons a st m o ha hst ho _ ih=>
  obtain⟨h1,h2,h3,h4⟩:=vy ha hst;have:=G0 h h1 h2 (o:=o) (by simp_all)
  grind[n7]
theorem NX{C:List Nat}(h:SolR p C):∀(k:Nat) {n:RN},n.ok p.length->n.ph=0->Cn C n=k->k<1099511627776->Pth p n.i (stO n) k:=by
 intro k
 induction k using Nat.strongRecOn with
 | ind k ih=>
  intro n hn hp hc hk;by_cases he:rU p n
  ·obtain⟨e1,e2⟩:=he
   have hne:n=asR p.length:=by
    obtain⟨hs,hu⟩:=hn.s.2 (.inl e1);obtain⟨i,m,ph,s,u⟩:=n;subst e1 e2 hp hs hu;rfl
   have:Cn C (asR p.length)<=2*0:=mC h 0 p.length byO;rw[hne]at hc ⊢;have:k=0:=byO;subst this;exact .nil
  ·obtain⟨o,ho⟩:=BB h hn hp byO he
   have hok:=oY hn.i o ho.mem;obtain⟨h1,h2,h3,h4⟩:=vy hok.nx.2 hok.md;have ht:=ho.tot;unfold n7 at ht;have hsz:=hok.sz;have hsub:=ih (Cn C (ndO o.nx o.md)) byO h1 h2 rfl byO;rw[h3,h4]at hsub;have:=Pth.cons hn.i (wg hn) ho.mem hsub
   simp_all
theorem BH{c:List Nat}(h:Sol p c)(hl:p.length<=4096){a st:Nat}(ha:a<=p.length)(hs:st<19):cst c a st<=10000:=by
 have h0:=lK h (p.length-a) a byO;by_cases e:st=0
 ·grind
 ·have key:∀o ∈ dQ p c a st,o.sz=1->o.run=0->o.nx=a->o.md=0->cst c a st<=10000:=by
   intro o ho h1 h2 h3 h4;have:=(h.row a ha).fix st hs o ho
   grind[bP]
  have hl:eu a ∈ dQ p c a st\/fu 31 1 a 0 ∈ dQ p c a st:=by
   grind[dQ,kJ,tL,pJ,jA]
  rcases hl with hl|hl
  ·exact key _ hl rfl rfl rfl rfl
  ·exact key _ hl rfl rfl rfl rfl
theorem qd{c C:List Nat}(hs:Sol p c)(h:SolR p C)(hl:p.length<=4096){n:RN}(hn:n.ok p.length)(hp:n.ph=0):Cn C n=cst c n.i (stO n):=by
 have hf:=BH hs hl hn.i (wg hn);have h1:=PI h (Ck hs _ hn.i (wg hn) rfl byO);rw[pT hn hp]at h1;have h2:=BG hs (NX h _ hn hp rfl byO);omega
theorem Pb{c C:List Nat}(hs:Sol p c)(h:SolR p C)(hl:p.length<=4096){a st:Nat}{o:Opt}(ha:a<=p.length)(ho:o ∈ iI p a st):bP c o=n7 C o:=by
 have hok:=oY ha o ho;obtain⟨h1,h2,h3,h4⟩:=vy hok.nx.2 hok.md;have e:=qd hs h hl h1 h2;rw[h3,h4]at e;show o.sz+o.run+cst c o.nx o.md=o.sz+o.run+Cn C (ndO o.nx o.md);rw[e]
theorem rL:∀{l m:List Nat},df l m<0->¬ df m l<0
 | [],[],h=>by grind[df]
 | [],_::_,h=>by simp[df]
 | _::_,[],h=>by grind[df]
 | a::l,b::m,h=>by
  unfold df at h ⊢;by_cases h1:a<b
  ·omega
  ·rw[if_neg h1]at h
   by_cases h2:b<a
   ·omega
   ·rw[if_neg h2]at h
    rw[if_neg h2,if_neg h1];exact rL h
theorem fold_eq{c:List Nat}{cost:Nat}{o:Opt}(hz:1<=o.sz)(ht:bP c o=cost):∀(L:List Opt) (b:Opt),(b=o\/(o ∈ L/\(b=cC\/df (hd o) (hd b)<0)))->(∀o' ∈ L,bP c o'=cost->o'=o\/df (hd o) (hd o')<0)->L.foldl (fo c cost) b=o
 | [],b,h,_=>by
  simp_all
 | x::L,b,h,hL=>by
  refine fold_eq hz ht L _ ?_ fun o' ho'=>hL o' (List.mem_cons_of_mem _ ho');unfold fo;by_cases hx:x=o
  ·left
   rw[hx];rcases h with rfl|⟨h,hb⟩
   ·rw[ite_self]
   ·have hb2:b.sz=0\/df (hd o) (hd b)<0:=by
     rcases hb with rfl|hb
     ·exact .inl rfl
     omega
    simp_all
  grind[rL]
theorem rA{c:List Nat}{a:Nat}:∀n,1<=n->∃k,1<=k/\k<=n/\iA c a n=dC a k/\∀d,1<=d->d<k->bP c (dC a k)<bP c (dC a d)
 | 0,h=>by omega
 | n+1,_=>by
  rw[iA];by_cases hn:n=0
  ·subst hn
   exact⟨1,byO,byO,rfl,fun d h1 h2=>byO⟩
  ·obtain⟨k,h1,h2,h3,h4⟩:=rA (c:=c) (a:=a) n byO
   grind[Nat.lt_of_lt_of_le,nu]
theorem IK{c C:List Nat}(hs:Sol p c)(h:SolR p C)(hl:p.length<=4096){n:RN}(hn:n.ok p.length)(hp:n.ph=0){o:Opt}(ho:ChO p C n o):chs p c n.i (stO n)=o:=by
 have hok:=oY (st:=stO n) hn.i;have hce:=qd hs h hl hn hp;have htt:∀{o'},o' ∈ iI p n.i (stO n)->bP c o'=n7 C o':=fun h'=>Pb hs h hl hn.i h';have hot:bP c o=cst c n.i (stO n):=by rw[htt ho.mem,ho.tot,hce]
 have hleast:∀o' ∈ iI p n.i (stO n),bP c o'=cst c n.i (stO n)->o'=o\/df (hd o) (hd o')<0:=by
  intro o' ho' ht;exact ho.least o' ho' (by rw[<-htt ho',ht,hce])
 have hmem:o ∈ dQ p c n.i (stO n):=by
  have hm:=ho.mem;unfold iI at hm;unfold dQ;by_cases h0:stO n=0
  ·rw[if_pos h0]at hm ⊢
   unfold ji at hm;unfold qy;rcases List.mem_append.1 hm with hm|hm
   ·exact List.mem_append_left _ hm
   ·refine List.mem_append_right _ ?_
    split at hm
    ·rename_i hi
     rw[if_pos hi];rcases List.mem_append.1 hm with hm|hm
     ·exact List.mem_append_left _ hm
     ·refine List.mem_append_right _ ?_
      obtain⟨d,d1,d2,d3,rfl⟩:=ft.1 hm;obtain⟨k,k1,k2,k3,k4⟩:=rA (c:=c) (a:=n.i) (min (p.length-n.i) 1749) byO;have hle:=nu (c:=c) (a:=n.i) (n:=min (p.length-n.i) 1749) (k:=d) d1 byO;rw[k3]at hle;have hkm:dC n.i k ∈ iI p n.i (stO n):=by
       unfold iI;rw[if_pos h0];unfold ji;refine List.mem_append_right _ ?_;rw[if_pos hi];exact List.mem_append_right _ (ft.2 ⟨k,k1,byO,byO,rfl⟩)
      have hge:cst c n.i (stO n)<=bP c (dC n.i k):=by
       rw[htt hkm,<-hce];exact G0 h hn hp hkm
      unfold vH;rw[k3];rcases hleast _ hkm byO with e|e
      ·rw[e];simp
      ·by_cases hdk:d<k
       ·have:=k4 d d1 hdk
        omega
       ·by_cases hkd:k<d
        ·exact absurd e (rL (Ay hkd))
        ·rw[show k=d by omega];simp
    ·cases hm
  ·rw[if_neg h0]at hm ⊢
   exact hm
 unfold chs nw;exact fold_eq (hok o ho.mem).sz.1 hot _ _ (.inr ⟨hmem,.inl rfl⟩) fun o' ho' ht=>hleast o' (yX ho') ht
theorem FG{c C:List Nat}(hs:Sol p c)(h:SolR p C)(hl:p.length<=4096):∀(k:Nat) {n:RN} {f g:Nat} {W Pt:List Nat},n.ok p.length->n.ph=0->Cn C n=k->mea C n<f->cst c n.i (stO n)<g->(n.m=4->Pt.length%4=0)->(n.m≠4->Pt=[])->(∀k,Pt.getD k 0<64)->mf p C f n W Pt=pt p c g n.i (stO n) (W++cQ Pt):=by
 intro k
 induction k using Nat.strongRecOn with
 | ind k ih=>
  intro n f g W Pt hn hp hc hf hg hP4 hP0 hPv;have hce:=qd hs h hl hn hp;have hfin:=BH hs hl hn.i (wg hn);obtain⟨g',rfl⟩:∃g',g=g'+1:=⟨g-1,byO⟩;by_cases he:rU p n
  ·obtain⟨e1,e2⟩:=he
   obtain⟨f',rfl⟩:∃f',f=f'+1:=⟨f-1,byO⟩;have hPt:=hP0 byO;subst hPt;have hst:stO n=0:=by grind[stO]
   have h1:mf p C (f'+1) n W []=W:=by
    show(if n.m≠0\/n.i<p.length then _ else W)=W
    simp_all
   rw[h1,pt,if_pos ⟨hst,e2⟩,show cQ []=[] from rfl,List.append_nil]
  ·obtain⟨o,ho⟩:=BB h hn hp byO he
   have hch:=IK hs h hl hn hp ho;have hok:=oY hn.i o ho.mem;obtain⟨h1,h2,h3,h4⟩:=vy hok.nx.2 hok.md;have ht:=ho.tot;unfold n7 at ht;have hsz:=hok.sz;obtain⟨f',W',Pt',q1,q2,q3,q4,q5,q6⟩:=ho.em f W Pt hf hP4 hP0 hPv;have hce2:=qd hs h hl h1 h2;have:=ih (Cn C (ndO o.nx o.md)) byO (f:=f') (g:=g') (W:=W') (Pt:=Pt') h1 h2 rfl q1 byO q4 q5 q6;rw[q2,this,q3,h3,h4];have hne:¬ (stO n=0/\n.i=p.length):=by
    rintro⟨e1,e2⟩;refine he ⟨?_,e2⟩;have hx:=pT hn hp;rw[e1]at hx;rw[<-hx];rfl
   grind[pt]
theorem N5{c C:List Nat}(hs:Sol p c)(h:SolR p C)(hl:p.length<=4096):mf p C (mea C (asR 0)+1) (asR 0) [] []=kW p c:=by
 have:=FG hs h hl _ (n:=asR 0) (f:=mea C (asR 0)+1) (g:=cst c 0 0+1) (W:=[]) (Pt:=[]) (gO (Nat.zero_le _)) rfl rfl byO (Nat.lt_succ_self _) (fun _=>rfl) (fun _=>rfl) (by simp);exact this
def lP(n:Int)(sq:Bool)(best s:Sz):Sz:=
 if ((decide (n<=s.d)&&(decide (s.r=s.c) || !sq))&&(decide (best.d=0) || decide (s.d<best.d)))=true then s else best
theorem zp(n:Int)(sq:Bool)(best s:Sz):lP n sq best s=cm n sq best s:=by
 unfold lP cm;by_cases h1:n<=s.d
 ·by_cases h2:s.r=s.c<;>by_cases h3:sq=true<;>by_cases h4:best.d=0<;>by_cases h5:s.d<best.d<;>simp[h1,h2,h3,h4,h5,Int.not_lt.2 h1]
 ·simp[h1,show s.d<n by omega]
def zo(n:Int)(sq:Bool):Sz×Int:=if n<1 then(Sz.zero,3) else if (cJ n sq 30).d=0 then(Sz.zero,16) else(cJ n sq 30,0)
open XJWfit
theorem R1{lo:Nat}{H:Heap}(n:Int)(sq:Bool)(hlo:lo<=H.length):Ev cp lo 42 [.int .i64 n,.bool sq] H (fun v H'=>Ext H H'/\v=.tuple #[(zo n sq).1.val,.int .i64 (zo n sq).2]):=by
 refine stG rfl rfl ?_;unfold QO;simp only[kB,aD];refine aA ?_;refine aP ?_ ?_<;>intro h
 ·simp only[af₀]at h
  refine aA ?_;refine aK ?_;exact⟨Ext.app _ _,by simp[aM,zo,h,Sz.zero,Sz.val]⟩
 have h1:¬ n<1:=by simpa using h
 clear h;refine aA ?_;refine aT ?_;refine aC (wc (by simp;omega)) ?_;rintro v H1 ⟨j,hj,rfl,hg,hE⟩;have g0:H1.get H.length=some _:=hE.get aN;have g1:H1.get (H.length+1)=some _:=hE.get aN;have hx:=hE.of_app;have hl:=hE.1;simp only[as₀,ak₀,an₀]at hj hl;clear hE;refine aA ?_;refine c8 (fun S H'=>∃(x6 x7 x8 x9 x10:Value),S=[.int .i64 n,.bool sq,.pointer (some ⟨H.length,0,none⟩),.int .i64 0,.pointer (some ⟨H.length+1,0,none⟩),.slice (some ⟨j,0,some 7⟩) 30 30,x6,x7,x8,x9,x10]/\Ext H H'/\H'.get H.length=some Sz.zero.cells/\H'.get (H.length+1)=some (cJ n sq 30).cells) ?_ ?_
 ·refine aY (fun m S H'=>∃(i:Int) (x7 x8 x9 x10:Value),0<=i/\i<=30/\m=(30-i).toNat/\S=[.int .i64 n,.bool sq,.pointer (some ⟨H.length,0,none⟩),.int .i64 0,.pointer (some ⟨H.length+1,0,none⟩),.slice (some ⟨j,0,some 7⟩) 30 30,.int .i64 i,x7,x8,x9,x10]/\Ext H H'/\j<H'.length/\H'.get H.length=some Sz.zero.cells/\H'.get (H.length+1)=some (cJ n sq i.toNat).cells/\H'.get j=some szCells) 30 ?_ ?_
  ·exact⟨0,_,_,_,_,byO,byO,byO,rfl,hx,Heap.get_lt hg,g0,g1,hg⟩
  rintro m S H2 ⟨i,x7,x8,x9,x10,hi0,hi1,rfl,rfl,hx2,hj2,g0,g1,hg⟩;have hl2:=Heap.get_lt g1;(try simp only[aD]);refine aP ?_ ?_<;>intro h
  ·have hi:i<30:=by simpa using h
   clear h;have hrow:=gW (i:=i.toNat) byO;have hlen:=fh;have hnext:cJ n sq (i+1).toNat=lP n sq (cJ n sq i.toNat) (bO i.toNat):=by
    rw[show(i+1).toNat=i.toNat+1 by omega,iT byO,zp]
   refine aA ?_;refine aP ?_ ?_<;>intro h
   ·have hst:cJ n sq (i+1).toNat=bO i.toNat:=by rw[hnext];unfold lP;rw[if_pos h]
    clear hnext h;refine aA ?_;simp only[ak];refine⟨(30-(i+1)).toNat,by omega,i+1,_,_,_,_,by omega,by omega,rfl,rfl,(hx2.set (by omega)).trans (Ext.app _ _),by simp;omega,by simp(disch:=try exact dO)only[evB,xtr,Nat.reduceAdd,Nat.reduceBEq,Int.reduceToNat, *],?_,by simp(disch:=try exact dO)only[evB,xtr,Nat.reduceAdd,Nat.reduceBEq,Int.reduceToNat, *]⟩;rw[hst];simp(disch:=try exact dO)only[evB,xtr,Nat.reduceAdd,Nat.reduceBEq,Int.reduceToNat, *]
   ·have hst:cJ n sq (i+1).toNat=cJ n sq i.toNat:=by rw[hnext];unfold lP;rw[if_neg (by rw[h];simp)]
    clear hnext h;refine aA ?_;simp only[ak];refine⟨(30-(i+1)).toNat,by omega,i+1,_,_,_,_,by omega,by omega,rfl,rfl,hx2.trans (Ext.app _ _),by simp;omega,by simp(disch:=try exact dO)only[evB,xtr,Nat.reduceAdd,Nat.reduceBEq,Int.reduceToNat, *],?_,by simp(disch:=try exact dO)only[evB,xtr,Nat.reduceAdd,Nat.reduceBEq,Int.reduceToNat, *]⟩;rw[hst];simp(disch:=try exact dO)only[evB,xtr,Nat.reduceAdd,Nat.reduceBEq,Int.reduceToNat, *]
  ·obtain rfl:i=30:=by simp at h;omega
   clear h;(try simp only[aD]);exact⟨_,_,_,_,_,rfl,hx2,g0,g1⟩
 rintro S H3 ⟨x6,x7,x8,x9,x10,rfl,hx3,g0,g1⟩;have hl3:=Heap.get_lt g1;(try simp only[aD]);refine aP ?_ ?_<;>intro h
 ·have hd:(cJ n sq 30).d=0:=by simpa using h
  clear h;refine aA ?_;refine aK ?_;exact⟨hx3.set byO,by simp[aM,zo,h1,hd,Sz.zero,Sz.val]⟩
 ·have hd:¬ (cJ n sq 30).d=0:=by simpa using h
  clear h;refine aA ?_;refine aK ?_;exact⟨hx3.set byO,by simp[aM,zo,h1,hd,Sz.val]⟩
theorem uJ{n:Int}{sq:Bool}:∀(l:List Sz) (b:Sz),(∀s ∈ l,0<s.d)->0<=b.d->0<=(l.foldl (cm n sq) b).d/\(b.d≠0->(l.foldl (cm n sq) b).d≠0)/\((∃s ∈ l,¬ ((sq=true/\s.r≠s.c)\/s.d<n))->(l.foldl (cm n sq) b).d≠0)
 | [],b,_,hb=>⟨hb,fun h=>h,fun⟨s,hs,_⟩=>by simp at hs⟩
 | s::l,b,hl,hb=>by
  have hs:=hl s (by simp);have hstep:0<=(cm n sq b s).d:=by unfold cm;split;exact hb;split;omega;exact hb
  obtain⟨i1,i2,i3⟩:=uJ l (cm n sq b s) (fun x hx=>hl x (by simp[hx])) hstep;refine⟨i1,fun h=>i2 ?_,?_⟩
  ·unfold cm;split;exact h;split;omega;exact h
  ·rintro⟨x,hx,hc⟩
   rcases List.mem_cons.1 hx with rfl|hx
   ·refine i2 ?_
    unfold cm;rw[if_neg hc];split
    ·omega
    ·rename_i h;omega
   ·exact i3 ⟨x,hx,hc⟩
theorem uI{n:Int}{sq:Bool}:∀(l:List Sz) (b:Sz),(∀s ∈ l,s.d<n)->l.foldl (cm n sq) b=b
 | [],_,_=>rfl
 | s::l,b,hl=>by
  have:cm n sq b s=b:=by unfold cm;rw[if_pos (.inr (hl s (by simp)))]
  rw[List.foldl_cons,this];exact uI l b (fun x hx=>hl x (by simp[hx]))
theorem MI:∀s ∈ szs,0<s.d/\s.d<=1558:=by
 have h:szs.all (fun s=>decide (0<s.d)&&decide (s.d<=1558))=true:=by kernel_rfl
 intro s hs;have:=List.all_eq_true.1 h s hs;simpa using this
theorem Cr(n:Int)(sq:Bool):zo n sq=tN n sq:=by
 unfold zo tN cJ;rw[List.take_of_length_le (by rw[gI];omega)];split
 ·rfl
 by_cases h:1558<n
 ·rw[if_pos h,uI szs Sz.zero (fun s hs=>by have:=(MI s hs).2;omega)]
  rfl
 ·rw[if_neg h,if_neg]
  exact(uJ szs Sz.zero (fun s hs=>(MI s hs).1) (by decide)).2.2 ⟨bO 23,ah byO,by
   have e1:(bO 23).r=(bO 23).c:=rfl;have e2:(bO 23).d=1558:=rfl;rw[e2];intro hh;rcases hh with hh|hh
   ·exact hh.2 e1
   ·omega⟩
theorem PM{C x y:Nat}(hx:x<C):((y*C+x:Nat):Int).tdiv (C:Int)=y/\((y*C+x:Nat):Int).tmod (C:Int)=x:=by
 rw[Int.tdiv_eq_ediv_of_nonneg byO,Int.tmod_eq_emod_of_nonneg byO];have h1:(y*C+x)/C=y:=by grind[Nat.mul_comm,Nat.mul_add_div,Nat.div_eq_of_lt]
 grind[Nat.mul_comm,Nat.mul_add_mod,Nat.mod_eq_of_lt]
theorem vj{s:Sz}{o ws:List Int}{n:Nat}:bh s o ws (n+1)=bh s o ws n++[jG s o ws n]:=by simp[bh,List.range_succ]
theorem Di{ws:List Int}(h:cW ws=false)(hi:i<ws.length):0<=ws.getD i 0/\ws.getD i 0<=255:=by
 grind[cW,List.getElem_mem]
theorem tR{s:Sz}(h:i<30):decide (s ∈ szs.take (i+1))=(decide (s ∈ szs.take i) || decide (bO i=s)):=by
 grind[gJ]
set_option maxHeartbeats 8000000 in
theorem Jo{lo:Nat}{H:Heap}{v:Value}{ws:List Int}{s:Sz}(hlo:lo<=H.length)(hw:SlI H v ws) :
  Ev cp lo 44 [v,s.val] H (fun r H'=>Ext H H' /\
   ((¬ s ∈ szs/\r=.tuple #[.agg #[.int .i64 0,.int .i64 0,.slice none 0 0],.int .i64 14]) \/
    (s ∈ szs/\(ws.length:Int)≠s.d+s.k/\r=.tuple #[.agg #[.int .i64 0,.int .i64 0,.slice none 0 0],.int .i64 7]) \/
    (s ∈ szs/\(ws.length:Int)=s.d+s.k/\cW ws=true/\r=.tuple #[.agg #[.int .i64 0,.int .i64 0,.slice none 0 0],.int .i64 3]) \/
    (s ∈ szs/\(ws.length:Int)=s.d+s.k/\cW ws=false/\∃gf vd,SizeOrd s gf/\r=.tuple #[.agg #[.int .i64 s.c,.int .i64 s.r,vd],.int .i64 0]/\SlB H' vd (bh s gf.cells ws (s.r*s.c).toNat)))):=by
 have hw0:=hw;obtain⟨adw,cw,rfl⟩:=hw.len;refine stG rfl rfl ?_;unfold QQ;simp only[kB,aD];refine aA ?_;refine aT ?_;refine aC (wc (by simp;omega)) ?_;rintro v1 H1 ⟨j,hj,rfl,hg,hE⟩;have g0:H1.get H.length=some _:=hE.get aN;have g1:H1.get (H.length+1)=some _:=hE.get aN;have hx1:=hE.of_app;have hl1:=hE.1;simp only[as₀,ak₀,an₀]at hj hl1;clear hE;refine aA ?_;refine c8 (fun S H'=>H1=H'/\∃i z1 z8 z9 z10 z11 z12 z13 z14 z15 z16 z17 z18 z19 z20 z21 z22 z23 z24 z25 z26 z27,30<=i/\S=[.slice adw ws.length cw,z1,.pointer (some ⟨H.length,0,none⟩),.pointer (some ⟨H.length+1,0,none⟩),.int .i64 0,.bool (decide (s ∈ szs.take i)),.slice (some ⟨j,0,some 7⟩) 30 30,.int .i64 (i:Nat),z8,z9,z10,z11,z12,z13,z14,z15,z16,z17,z18,z19,z20,z21,z22,z23,z24,z25,z26,z27]) ?_ ?_
 ·refine aS (fun i S H'=>H1=H'/\∃z1 z8 z9 z10 z11 z12 z13 z14 z15 z16 z17 z18 z19 z20 z21 z22 z23 z24 z25 z26 z27,S=[.slice adw ws.length cw,z1,.pointer (some ⟨H.length,0,none⟩),.pointer (some ⟨H.length+1,0,none⟩),.int .i64 0,.bool (decide (s ∈ szs.take i)),.slice (some ⟨j,0,some 7⟩) 30 30,.int .i64 (i:Nat),z8,z9,z10,z11,z12,z13,z14,z15,z16,z17,z18,z19,z20,z21,z22,z23,z24,z25,z26,z27]) 30 ?_ ?_ ?_ ?_
  ·exact⟨rfl,_,_,_,_,_,_,_,_,_,_,_,_,_,_,_,_,_,_,_,_,_,by simp only[List.take_zero,List.not_mem_nil,decide_false];rfl⟩
  ·rintro i S H' hi ⟨rfl,z1,z8,z9,z10,z11,z12,z13,z14,z15,z16,z17,z18,z19,z20,z21,z22,z23,z24,z25,z26,z27,rfl⟩
   exact⟨_,aN,by simp;omega⟩
  ·rintro i S H' hi ⟨rfl,z1,z8,z9,z10,z11,z12,z13,z14,z15,z16,z17,z18,z19,z20,z21,z22,z23,z24,z25,z26,z27,rfl⟩
   have hrow:=gW hi;have hlen:=fh;have hse:=CP (a:=bO i) (b:=s);simp only[Sz.cells]at hse;refine aA ?_;have e:decide (s ∈ szs.take (i+1))=(decide (s ∈ szs.take i) || decide (bO i=s) != false):=by rw[tR hi];simp
   exact⟨by trivial,_,_,_,_,_,_,_,_,_,_,_,_,_,_,_,_,_,_,_,_,_,by rw[e];first|rfl|(simp only[ap₀,Int.natCast_one];rfl)|simp only[ap₀,Int.natCast_one]⟩
  ·rintro S H' ⟨rfl,z1,z8,z9,z10,z11,z12,z13,z14,z15,z16,z17,z18,z19,z20,z21,z22,z23,z24,z25,z26,z27,rfl⟩
   exact⟨rfl,_,_,_,_,_,_,_,_,_,_,_,_,_,_,_,_,_,_,_,_,_,_,Nat.le_refl _,rfl⟩
 rintro S H' ⟨rfl,i,z1,z8,z9,z10,z11,z12,z13,z14,z15,z16,z17,z18,z19,z20,z21,z22,z23,z24,z25,z26,z27,hi,rfl⟩;rw[List.take_of_length_le (by rw[gI];omega)];(try simp only[aD]);refine aP ?_ ?_<;>intro h
 ·have hsm:¬ s ∈ szs:=by simpa using h
  clear h;refine aA ?_;refine aK ?_;exact⟨hx1.set byO,.inl ⟨hsm,rfl⟩⟩
 have hsm:s ∈ szs:=by simpa using h
 clear h hg;obtain⟨gf,hso⟩:=Af s hsm;have hok:=Ai s hsm;have hok':=hok;obtain⟨r0,r1,c0,c1,rr0,rr1,rc0,rc1,d0,d1,k0,k1⟩:=hok';(try simp only[aD]);refine aP ?_ ?_<;>intro h
 ·have hlen:¬ (ws.length:Int)=s.d+s.k:=by simpa using h
  clear h;refine aA ?_;refine aK ?_;exact⟨hx1.set byO,.inr (.inl ⟨hsm,hlen,rfl⟩)⟩
 have hlen:(ws.length:Int)=s.d+s.k:=by simpa using h
 clear h;obtain⟨b,o,sp,cap,xs,ew,hb,hat,hxl⟩:=hw0.els 0 byO;cases ew;have hb:=hx1.get hb;have hsl:ws.length<=3200/\0<ws.length:=byO;have hl2:(ws.length:Int)<=s.d+s.k/\s.d+s.k<=ws.length:=byO;refine aA ?_;refine c8 (fun S H'=>H1=H'/\cW ws=false/\∃i z1 z5 z6 z7 z9 z10 z11 z12 z13 z14 z15 z16 z17 z18 z19 z20 z21 z22 z23 z24 z25 z26 z27,S=[.slice (some ⟨b,o,sp⟩) ws.length cw,z1,.pointer (some ⟨H.length,0,none⟩),.pointer (some ⟨H.length+1,0,none⟩),.int .i64 0,z5,z6,z7,.int .i64 (i:Nat),z9,z10,z11,z12,z13,z14,z15,z16,z17,z18,z19,z20,z21,z22,z23,z24,z25,z26,z27]) ?_ ?_
 ·refine aS (fun i S H'=>H1=H'/\cW (ws.take i)=false/\∃z1 z5 z6 z7 z9 z10 z11 z12 z13 z14 z15 z16 z17 z18 z19 z20 z21 z22 z23 z24 z25 z26 z27,S=[.slice (some ⟨b,o,sp⟩) ws.length cw,z1,.pointer (some ⟨H.length,0,none⟩),.pointer (some ⟨H.length+1,0,none⟩),.int .i64 0,z5,z6,z7,.int .i64 (i:Nat),z9,z10,z11,z12,z13,z14,z15,z16,z17,z18,z19,z20,z21,z22,z23,z24,z25,z26,z27]) ws.length ?_ ?_ ?_ ?_
  ·exact⟨rfl,rfl,_,_,_,_,_,_,_,_,_,_,_,_,_,_,_,_,_,_,_,_,_,_,_,rfl⟩
  ·rintro i S H' hi ⟨rfl,-,z1,z5,z6,z7,z9,z10,z11,z12,z13,z14,z15,z16,z17,z18,z19,z20,z21,z22,z23,z24,z25,z26,z27,rfl⟩
   exact⟨_,aN,by simp;omega⟩
  ·rintro i S H' hi ⟨rfl,hbw,z1,z5,z6,z7,z9,z10,z11,z12,z13,z14,z15,z16,z17,z18,z19,z20,z21,z22,z23,z24,z25,z26,z27,rfl⟩
   have hat:=hat i hi;have hsucc:=j8 (p:=fun w=>decide (w<0) || decide (255<w)) hi;have hlen':¬ (ws.length:Int)≠s.d+s.k:=byO;clear hlen hl2;(try simp only[aD]);refine aP ?_ ?_<;>intro h
   ·have hbad:cW ws=true:=by
     have h2:(ws.take (i+1)).any (fun w=>decide (w<0) || decide (255<w))=true:=by rw[hsucc,h];simp
     unfold cW;obtain⟨w,hw1,hw2⟩:=List.any_eq_true.1 h2;exact List.any_eq_true.2 ⟨w,List.mem_of_mem_take hw1,hw2⟩
    clear h hsucc;refine aA ?_;refine aK ?_;exact⟨hx1.set byO,.inr (.inr (.inl ⟨hsm,byO,hbad,rfl⟩))⟩
   ·refine aA ?_
    refine⟨by trivial,?_,_,_,_,_,_,_,_,_,_,_,_,_,_,_,_,_,_,_,_,_,_,_,_,ncM⟩;unfold cW at hbw ⊢;rw[hsucc,hbw,h];rfl
  ·rintro S H' ⟨rfl,hbw,z1,z5,z6,z7,z9,z10,z11,z12,z13,z14,z15,z16,z17,z18,z19,z20,z21,z22,z23,z24,z25,z26,z27,rfl⟩
   rw[List.take_of_length_le (Nat.le_refl _)]at hbw;exact⟨rfl,hbw,_,_,_,_,_,_,_,_,_,_,_,_,_,_,_,_,_,_,_,_,_,_,_,_,rfl⟩
 rintro S H' ⟨rfl,hbw,i,z1,z5,z6,z7,z9,z10,z11,z12,z13,z14,z15,z16,z17,z18,z19,z20,z21,z22,z23,z24,z25,z26,z27,rfl⟩;clear hl1 hlen;refine bF ?_;refine aC (uX (s:=s) hok) ?_;rintro v H3 ⟨hx3,rfl⟩;have g0:=(hx3).get g0;have g1:=(hx3).get g1;have hb:=(hx3).get hb;have hx3:=hx1.trans hx3;refine aA ?_;refine aT ?_;refine aC (Jd hso.dim (by have:=hx3.1;omega) hso.ord) ?_;rintro v H4 ⟨hx4,q,hq,rfl,hgq⟩;have g0:=(hx4).get g0;have g1:=(hx4).get g1;have hb:=(hx4).get hb;have hl4:=Heap.get_lt g1;have hql:=Heap.get_lt hgq;have hbl:=Heap.get_lt hb;have hl3:=hx3.1;have hx4:=hx3.trans hx4;refine aA ?_;have hgl:gf.cells.length<=(fU s*eO s).toNat/\(fU s*eO s).toNat<=gf.cells.length:=by rw[hso.od.len];omega
 have hmb:=nQ hok;have hrc0:0<=fU s*eO s:=Int.mul_nonneg byO byO;obtain⟨R,hR⟩:∃R:Nat,(R:Int)=s.r:=⟨s.r.toNat,byO⟩;obtain⟨C,hC⟩:∃C:Nat,(C:Int)=s.c:=⟨s.c.toNat,byO⟩;generalize hM:H4.length=M at *;refine c8 (fun S H'=>Ext H H'/\H'.get H.length=some s.cells/\H'.get (H.length+1)=some [.int .i64 0,.int .i64 0,.slice none 0 0]/\H'.get b=some xs/\H'.get q=some (aW gf.cells)/\∃vd bd,M<bd/\H'.get M=some [.int .i64 s.c,.int .i64 s.r,vd]/\Own lo 1 H' vd bd (et (bh s gf.cells ws (R*C)))/\∃y z1 z5 z6 z7 z8 z14 z15 z16 z17 z18 z19 z20 z21 z22 z23 z24 z25 z26 z27,S=[.slice (some ⟨b,o,sp⟩) ws.length cw,z1,.pointer (some ⟨H.length,0,none⟩),.pointer (some ⟨H.length+1,0,none⟩),.int .i64 0,z5,z6,z7,z8,.int .i64 (fU s),.int .i64 (eO s),.slice (some ⟨q,0,some 1⟩) gf.cells.length gf.cells.length,.pointer (some ⟨M,0,none⟩),.int .i64 (y:Nat),z14,z15,z16,z17,z18,z19,z20,z21,z22,z23,z24,z25,z26,z27]) ?_ ?_
 ·refine aS (fun y S H'=>Ext H H'/\H'.get H.length=some s.cells/\H'.get (H.length+1)=some [.int .i64 0,.int .i64 0,.slice none 0 0]/\H'.get b=some xs/\H'.get q=some (aW gf.cells)/\∃vd bd,M<bd/\H'.get M=some [.int .i64 s.c,.int .i64 s.r,vd]/\Own lo 1 H' vd bd (et (bh s gf.cells ws (y*C)))/\∃z1 z5 z6 z7 z8 z14 z15 z16 z17 z18 z19 z20 z21 z22 z23 z24 z25 z26 z27,S=[.slice (some ⟨b,o,sp⟩) ws.length cw,z1,.pointer (some ⟨H.length,0,none⟩),.pointer (some ⟨H.length+1,0,none⟩),.int .i64 0,z5,z6,z7,z8,.int .i64 (fU s),.int .i64 (eO s),.slice (some ⟨q,0,some 1⟩) gf.cells.length gf.cells.length,.pointer (some ⟨M,0,none⟩),.int .i64 (y:Nat),z14,z15,z16,z17,z18,z19,z20,z21,z22,z23,z24,z25,z26,z27]) R ?_ ?_ ?_ ?_
  ·refine⟨hx4.trans (Ext.app _ _),by simp(disch:=try exact dO)only[evB,xtr,Nat.reduceAdd,Nat.reduceBEq,Int.reduceToNat, *],by simp(disch:=try exact dO)only[evB,xtr,Nat.reduceAdd,Nat.reduceBEq,Int.reduceToNat, *],by simp(disch:=try exact dO)only[evB,xtr,Nat.reduceAdd,Nat.reduceBEq,Int.reduceToNat, *],by simp(disch:=try exact dO)only[evB,xtr,Nat.reduceAdd,Nat.reduceBEq,Int.reduceToNat, *],_,M+1,by omega,by rw[<-hM,aF],by rw[Nat.zero_mul];exact Own.nil (by omega),_,_,_,_,_,_,_,_,_,_,_,_,_,_,_,_,_,_,_,rfl⟩
  ·rintro y S H' hy ⟨hx,f0,f1,fb,fq,vd,bd,hbd,fm,hown,z1,z5,z6,z7,z8,z14,z15,z16,z17,z18,z19,z20,z21,z22,z23,z24,z25,z26,z27,rfl⟩
   exact⟨_,aN,by simp;omega⟩
  ·rintro y S H5 hy ⟨hx5,f0,f1,fb,fq,vd,bd,hbd,fm,hown,z1,z5,z6,z7,z8,z14,z15,z16,z17,z18,z19,z20,z21,z22,z23,z24,z25,z26,z27,rfl⟩
   have hl5:=hx5.1;have hMl:=Heap.get_lt fm;refine aA ?_;refine aS (fun x S H'=>Ext H H'/\H'.get H.length=some s.cells/\H'.get (H.length+1)=some [.int .i64 0,.int .i64 0,.slice none 0 0]/\H'.get b=some xs/\H'.get q=some (aW gf.cells)/\∃vd bd,M<bd/\H'.get M=some [.int .i64 s.c,.int .i64 s.r,vd]/\Own lo 1 H' vd bd (et (bh s gf.cells ws (y*C+x)))/\∃z1 z5 z6 z7 z8 z15 z16 z17 z18 z19 z20 z21 z22 z23 z24 z25 z26 z27,S=[.slice (some ⟨b,o,sp⟩) ws.length cw,z1,.pointer (some ⟨H.length,0,none⟩),.pointer (some ⟨H.length+1,0,none⟩),.int .i64 0,z5,z6,z7,z8,.int .i64 (fU s),.int .i64 (eO s),.slice (some ⟨q,0,some 1⟩) gf.cells.length gf.cells.length,.pointer (some ⟨M,0,none⟩),.int .i64 (y:Nat),.int .i64 (x:Nat),z15,z16,z17,z18,z19,z20,z21,z22,z23,z24,z25,z26,z27]) C ?_ ?_ ?_ ?_
   ·exact⟨hx5,f0,f1,fb,fq,vd,bd,hbd,fm,hown,_,_,_,_,_,_,_,_,_,_,_,_,_,_,_,_,_,_,rfl⟩
   ·clear hx5 f0 f1 fb fq fm hown
    rintro x S H' hx ⟨hx5,f0,f1,fb,fq,vd,bd,hbd,fm,hown,z1,z5,z6,z7,z8,z15,z16,z17,z18,z19,z20,z21,z22,z23,z24,z25,z26,z27,rfl⟩;exact⟨_,aN,by simp;omega⟩
   ·clear hx5 f0 f1 fb fq fm hown hl5 hMl hbd
    rintro x S H5 hx ⟨hx5,f0,f1,fb,fq,vd,bd,hbd,fm,hown,z1,z5,z6,z7,z8,z15,z16,z17,z18,z19,z20,z21,z22,z23,z24,z25,z26,z27,rfl⟩;have hl5:=hx5.1;have hMl:=Heap.get_lt fm;have hdiv:=PM (y:=y) hx;have hdef:=jG.eq_1 s gf.cells ws (y*C+x);have hloc:=hso.loc (y*C+x);rw[<-hC,hdiv.1,hdiv.2]at hdef hloc;have hyx:y*C+x<R*C:=by
     have:(y+1)*C<=R*C:=Nat.mul_le_mul_right C byO;rw[Nat.add_mul]at this;omega
    have hloc:=hloc (by rw[<-hR,<-Int.natCast_mul];omega);have hmlen:(bh s gf.cells ws (y*C+x)).length=y*C+x:=lW;have hRC:R*C<=40000:=by
     have:=Nat.mul_le_mul (show R<=200 by omega) (show C<=200 by omega);omega
    refine bF ?_;refine aC (ET (s:=s) (row:=(y:Int)) (col:=(x:Int)) hok byO byO byO byO) ?_;rintro v H6 ⟨hx6,rfl⟩;have f0:=(hx6).get f0;have f1:=(hx6).get f1;have fb:=(hx6).get fb;have fq:=(hx6).get fq;have fm:=(hx6).get fm;have hown:=hown.mono hx6;have hx6:=hx5.trans hx6;refine aA ?_;refine ba (fun S H'=>Ext H6 H'/\∃z1 z5 z6 z7 z8 z15 z17 z18 z19 z20 z21 z22 z23 z24 z25 z26 z27,S=[.slice (some ⟨b,o,sp⟩) ws.length cw,z1,.pointer (some ⟨H.length,0,none⟩),.pointer (some ⟨H.length+1,0,none⟩),.int .i64 0,z5,z6,z7,z8,.int .i64 (fU s),.int .i64 (eO s),.slice (some ⟨q,0,some 1⟩) gf.cells.length gf.cells.length,.pointer (some ⟨M,0,none⟩),.int .i64 (y:Nat),.int .i64 (x:Nat),z15,.bool (jG s gf.cells ws (y*C+x)),z17,z18,z19,z20,z21,z22,z23,z24,z25,z26,z27]) ?_ ?_
    ·refine aP ?_ ?_<;>intro h
     ·have hB:jz s y x=false:=by simpa using h
      clear h;have hloc:=hloc hB;rw[if_neg (by rw[hB];simp)]at hdef;have hl6:=hx6.1;refine bF ?_;refine aC (NO (s:=s) (row:=(y:Int)) (col:=(x:Int)) hok byO byO byO byO byO hB) ?_;rintro v H7 ⟨hx7,rfl⟩;have f0:=(hx7).get f0;have f1:=(hx7).get f1;have fb:=(hx7).get fb;have fq:=(hx7).get fq;have fm:=(hx7).get fm;have hltI:(eh s y x).toNat<(fU s*eO s).toNat:=byO;have hlt8:=hso.od.lt (eh s y x).toNat hltI;have hgd:gf.cells.getD (eh s y x).toNat 0=gf.cells.getD (eh s y x).toNat (-1):=by
       simp[au₀,bc₀ (show(eh s y x).toNat<gf.cells.length by omega)]
      rw[<-hgd]at hlt8;clear hgd;have hnI:(eh s y x).toNat<gf.cells.length:=byO;have hfx:=Nb (i:=eh s y x) hso.dim byO byO;have hlocb:=dV (a:=fU s) (b:=eO s) (A:=40000) (B:=40000) byO byO byO byO byO;refine aA ?_;generalize hn:gf.cells.getD (eh s y x).toNat 0=n at *;refine aP ?_ ?_<;>intro h
      ·have hn0:0<=n:=by simpa using h
       clear h;rw[if_pos hn0]at hdef;have t8:=g9 (a:=n) (b:=8) hn0 byO;have m8:=eM (a:=n) (m:=8) hn0 byO;have q8:n.tdiv 8<ws.length:=by
        rw[Int.tdiv_eq_ediv_of_nonneg hn0];omega
       have q8':(n.tdiv 8).toNat<ws.length:=byO;have hwb:=Di hbw q8';have hbe:=IF (n:=n) hwb.1 hwb.2 hn0;have hat:=hat _ q8';rw[hbe]at hdef;clear hbe hlt8 hloc hfx;refine aA ?_;exact⟨hx7,_,_,_,_,_,_,_,_,_,_,_,_,_,_,_,_,_,by rw[hdef]⟩
      ·have hn0:¬ 0<=n:=by simpa using h
       clear h;rw[if_neg hn0,hfx]at hdef;clear hfx;refine aA ?_;exact⟨hx7,_,_,_,_,_,_,_,_,_,_,_,_,_,_,_,_,_,by rw[hdef]⟩
     ·have hB:jz s y x=true:=by simpa using h
      clear h;rw[if_pos hB,<-ES hB]at hdef;(try simp only[aD]);exact⟨Ext.refl _,_,_,_,_,_,_,_,_,_,_,_,_,_,_,_,_,_,by rw[hdef]⟩
    rintro S H7 ⟨hx7,z1,z5,z6,z7,z8,z15,z17,z18,z19,z20,z21,z22,z23,z24,z25,z26,z27,rfl⟩;have f0:=(hx7).get f0;have f1:=(hx7).get f1;have fb:=(hx7).get fb;have fq:=(hx7).get fq;have fm:=(hx7).get fm;have hown:=hown.mono hx7;have hx7:=hx6.trans hx7;have hl7:=hx7.1;have hMl:=Heap.get_lt fm;clear hx5 hx6 hloc hdef;refine aA ?_;refine aT ?_;refine di (c:=[.bool (jG s gf.cells ws (y*C+x))]) (hown.mono (Ext.app _ _)) (by simp;omega) byO byO (by rw[th,hmlen];omega) aF (by simp) rfl rfl ?_;rintro v' H8 hown8 hk hl8;have hE:=Ext.app H7 [some [Value.bool (jG s gf.cells ws (y*C+x))]];have hx8:=hk.ext (hx7.trans hE) byO;have f0:=hk.get (hE.get f0) byO;have f1:=hk.get (hE.get f1) byO;have fb:=hk.get (hE.get fb) byO;have fq:=hk.get (hE.get fq) byO;have fm:=hk.get (hE.get fm) byO;have hl8:=Heap.get_lt fm;obtain⟨a,n,rfl,-,-⟩:=hown8.len byO;simp only[as₀,ak₀,an₀]at hown8;clear hE hk hown hx7;refine aA ?_;refine⟨hx8.set (by omega),by simp(disch:=try exact dO)only[evB,xtr,Nat.reduceAdd,Nat.reduceBEq,Int.reduceToNat, *],by simp(disch:=try exact dO)only[evB,xtr,Nat.reduceAdd,Nat.reduceBEq,Int.reduceToNat, *],by simp(disch:=try exact dO)only[evB,xtr,Nat.reduceAdd,Nat.reduceBEq,Int.reduceToNat, *],by simp(disch:=try exact dO)only[evB,xtr,Nat.reduceAdd,Nat.reduceBEq,Int.reduceToNat, *],_,H7.length+(0+1),by omega,by simp(disch:=try exact dO)only[evB,xtr,Nat.reduceAdd,Nat.reduceBEq,Int.reduceToNat, *];rfl,?_,_,_,_,_,_,_,_,_,_,_,_,_,_,_,_,_,_,_,ncM⟩;rw[show y*C+(x+1)=(y*C+x)+1 by omega,vj,C8];exact hown8.keep ⟨by simp,fun i hi hne=>aI (fun e=>hne e.symm)⟩ byO
   ·clear hx5 f0 f1 fb fq fm hown hl5 hMl hbd
    rintro S H6 ⟨hx,f0,f1,fb,fq,vd,bd,hbd,fm,hown,z1,z5,z6,z7,z8,z15,z16,z17,z18,z19,z20,z21,z22,z23,z24,z25,z26,z27,rfl⟩;refine aA ?_;rw[Nat.add_mul,Nat.one_mul];exact⟨hx,f0,f1,fb,fq,vd,bd,byO,fm,hown,_,_,_,_,_,_,_,_,_,_,_,_,_,_,_,_,_,_,_,ncM⟩
  ·rintro S H' ⟨hx,f0,f1,fb,fq,vd,bd,hbd,fm,hown,z1,z5,z6,z7,z8,z14,z15,z16,z17,z18,z19,z20,z21,z22,z23,z24,z25,z26,z27,rfl⟩
   exact⟨hx,f0,f1,fb,fq,vd,bd,hbd,fm,hown,_,_,_,_,_,_,_,_,_,_,_,_,_,_,_,_,_,_,_,_,rfl⟩
 rintro S H' ⟨hx,f0,f1,fb,fq,vd,bd,hbd,fm,hown,y,z1,z5,z6,z7,z8,z14,z15,z16,z17,z18,z19,z20,z21,z22,z23,z24,z25,z26,z27,rfl⟩;have hMl:=Heap.get_lt fm;obtain⟨a,n,rfl,-,-⟩:=hown.len byO;refine aA ?_;refine aK ?_;have hfin:(s.r*s.c).toNat=R*C:=by rw[<-hR,<-hC,<-Int.natCast_mul,Int.toNat_natCast]
 refine⟨hx.set byO,.inr (.inr (.inr ⟨hsm,byO,hbw,gf,_,hso,rfl,?_⟩))⟩;rw[hfin];exact Sl.ofOwn (hown.keep ⟨by simp,fun i hi hne=>aI (fun e=>hne e.symm)⟩ byO)
end Go.Proofs.YtmnlgdpdgjbfgaaGreat
namespace Go.Proofs.YtmnlgdpdgjbfgaaGreat
open Go.Abs Go.RS
variable{H:Heap}{v:Value}
theorem KK{l:List Bool}{b:Nat}{x:Option (List Value)}{a c:Int}(h:SlB H v l)(hl:0<l.length)(hg:H.get b=some [.int .i64 a,.int .i64 c,.slice none 0 0]):SlB (List.set H b x) v l:=by
 rcases h with h|⟨b',o,sp,cap,xs,rfl,h2,h3,h4⟩
 ·exact .inl h
 refine .inr ⟨b',o,sp,cap,xs,rfl,?_,h3,h4⟩;by_cases e:b=b'
 ·exfalso
  subst e;rw[hg]at h2;cases h2
  match l,hl with
  | y::l,_=>
   match o with
   | 0=>simp at h3
   | 1=>simp at h3
   | 2=>simp at h3
   | o+3=>simp at h3
 ·rw[aI e];exact h2
theorem JY:(List.range 30).all (fun i=>decide (0<((dz i).sz.r*(dz i).sz.c).toNat))=true:=by kernel_rfl
theorem JX:(List.range 30).all (fun i=>decide (((dz i).sz.r*(dz i).sz.c).toNat<=1000000000))=true:=by kernel_rfl
open XZq
theorem RT{lo:Nat}{p:List UInt8}{sq:Bool}{cs:List Nat}{i m:Nat}{e:List (El F1)}{gf:G}(hm:MatQ p sq cs i m e gf)(hp:SlU H v p)(hl:p.length<=300)(hlo:lo<=H.length) :
  Ev cp lo 19 [v,.bool sq] H (fun r H'=>Ext H H'/\∃vd,r=.tuple #[.agg #[.int .i64 (dz i).sz.c,.int .i64 (dz i).sz.r,vd],.int .i64 0]/\SlB H' vd (mtB i e gf)):=by
 obtain⟨ad,c0,rfl⟩:=hp.len;refine stG rfl rfl ?_;unfold Py;simp only[kB,aD];refine lF ?_;have hE0:=Ext.app H [some [Value.int .i64 0,Value.int .i64 0,.slice none 0 0]];have g0:Heap.get (H++[some [Value.int .i64 0,Value.int .i64 0,.slice none 0 0]]) H.length=some [Value.int .i64 0,Value.int .i64 0,.slice none 0 0]:=aF;generalize H++[some [Value.int .i64 0,Value.int .i64 0,.slice none 0 0]]=K at *;have hlK:=hE0.1;refine Dm ?_;refine aC (RR (lo:=lo) (hp.mono hE0) byO byO) ?_;rintro r H1 ⟨hx1,C,w,bw,hsol,rfl,-,hw⟩;rw[N5 hm.sol hsol byO]at hw;obtain⟨aw,rfl⟩:=G4 hw;have hw2:Sl aB H1 (.slice aw (kW p cs).length (kW p cs).length) (kW p cs):=Sl.ofOwn hw;have hw3:=uB hw2;have g0:=hx1.get g0;have hx1:=hE0.trans hx1;have hl1:=hx1.1;obtain⟨hi,hs,hfit,hdm,hve,hel,hso,henc⟩:=hm;have hz:=uA hi;have hd2:=hz.d2;have hm5:m<=1558:=byO;have hM:0<(mtB i e gf).length:=by
  show 0<(bh _ _ _ _).length;rw[lW];simpa using List.all_eq_true.1 JY i (List.mem_range.2 hi)
 have hle:=FF hs byO;clear hw hw2 hsol hs hp;generalize kW p cs=E at *;have hE5:E.length<=1558:=byO;have hmx:(if (1:Int)<((E.length:Nat):Int) then((E.length:Nat):Int) else(1:Int))=((max E.length 1:Nat):Int):=by split<;>omega
 have hf:=fun(K:Heap) (h:lo<=K.length)=>R1 (lo:=lo) (H:=K) ((max E.length 1:Nat):Int) sq h;rw[Cr,hfit]at hf;have hpd:=Bt (m:=m) hle byO;have hdm2:(dz i).sz.d=((E.length:Nat):Int)+(m:Nat):=by show((dz i).d:Int)=_;omega
 rw[<-hve]at hpd;have hsz:(dz i).sz ∈ szs:=mZ.2 ⟨i,hi,rfl⟩;have hWl:(ilv (dz i).n ((dz i).W e) ((dz i).d+(dz i).c)).length=(dz i).d+(dz i).c:=qk _ _ _;have hbw:cW (ilv (dz i).n ((dz i).W e) ((dz i).d+(dz i).c))=false:=by
  unfold cW;rw[List.any_eq_false];intro x hx;unfold ilv at hx;obtain⟨j,-,rfl⟩:=List.mem_map.1 hx;have:=El.lt (co ((dz i).W e (j%(dz i).n)) (j/(dz i).n));have h256:F1.q=256:=rfl;simp;omega
 have hvl:(en e).length<=1000000000:=by rw[dX,hel];omega
 have hprot:∀{K:Heap} {r:Value},td (dz i).sz (en e) K r->∃vo,r=.tuple #[vo,.int .i64 0]/\SlI K vo (ilv (dz i).n ((dz i).W e) ((dz i).d+(dz i).c)):=fun h=>h.2 i hi rfl e rfl hel;have hdc:((((dz i).d+(dz i).c:Nat):Int))=(dz i).sz.d+(dz i).sz.k:=by show _=((dz i).d:Int)+((dz i).c:Int);omega
 have hpl:∀{K:Heap} {r:Value},
   ((¬ (dz i).sz ∈ szs/\r=.tuple #[.agg #[.int .i64 0,.int .i64 0,.slice none 0 0],.int .i64 14]) \/
    ((dz i).sz ∈ szs/\((ilv (dz i).n ((dz i).W e) ((dz i).d+(dz i).c)).length:Int)≠(dz i).sz.d+(dz i).sz.k/\r=.tuple #[.agg #[.int .i64 0,.int .i64 0,.slice none 0 0],.int .i64 7]) \/
    ((dz i).sz ∈ szs/\((ilv (dz i).n ((dz i).W e) ((dz i).d+(dz i).c)).length:Int)=(dz i).sz.d+(dz i).sz.k/\cW (ilv (dz i).n ((dz i).W e) ((dz i).d+(dz i).c))=true/\r=.tuple #[.agg #[.int .i64 0,.int .i64 0,.slice none 0 0],.int .i64 3]) \/
    ((dz i).sz ∈ szs/\((ilv (dz i).n ((dz i).W e) ((dz i).d+(dz i).c)).length:Int)=(dz i).sz.d+(dz i).sz.k/\cW (ilv (dz i).n ((dz i).W e) ((dz i).d+(dz i).c))=false/\∃gf vd,SizeOrd (dz i).sz gf/\r=.tuple #[.agg #[.int .i64 (dz i).sz.c,.int .i64 (dz i).sz.r,vd],.int .i64 0]/\SlB K vd (bh (dz i).sz gf.cells (ilv (dz i).n ((dz i).W e) ((dz i).d+(dz i).c)) ((dz i).sz.r*(dz i).sz.c).toNat))) ->
   ∃vd,r=.tuple #[.agg #[.int .i64 (dz i).sz.c,.int .i64 (dz i).sz.r,vd],.int .i64 0]/\SlB K vd (mtB i e gf):=by
  intro K r h;rcases h with ⟨h1,-⟩|⟨-,h2,-⟩|⟨-,-,h3,-⟩|⟨-,-,-,gf',vd,hs',rfl,hv⟩
  ·exact absurd hsz h1
  ·exact absurd (by rw[hWl];exact hdc) h2
  ·rw[hbw]at h3;cases h3
  ·have ee:=hso.ord
   rw[hs'.ord]at ee;cases ee;exact⟨vd,rfl,hv⟩
 clear hfit hdm hve hel hso henc hz hle hsz hWl hbw hdc;generalize ilv (dz i).n ((dz i).W e) ((dz i).d+(dz i).c)=V at *;generalize mtB i e gf=M at *;generalize en e=ve at *;generalize (dz i).sz=s at *;obtain⟨sr,sc,srr,src,sd,sk,sb⟩:=s;simp only at hdm2;subst hdm2;replace hf:False\/_:=.inr hf;replace hpd:False\/_:=.inr hpd;replace hprot:False\/_:=.inr @hprot;replace hpl:False\/_:=.inr @hpl;refine lF ?_;refine Dn ?_;refine zG ?_;refine aC (hf.resolve_left id _ byO) ?_;rintro r H2 ⟨hx2,rfl⟩;have g0:=hx2.get g0;have hw3:=hw3.mono hx2;have hx2:=hx1.trans hx2;have hl2:=hx2.1;clear hf hx1;refine lF ?_;have g6:Heap.get (H2++[some [Value.int .i64 sr,.int .i64 sc,.int .i64 srr,.int .i64 src,.int .i64 (((E.length:Nat):Int)+(m:Nat)),.int .i64 sk,.int .i64 sb]]) H2.length=some [Value.int .i64 sr,.int .i64 sc,.int .i64 srr,.int .i64 src,.int .i64 (((E.length:Nat):Int)+(m:Nat)),.int .i64 sk,.int .i64 sb]:=aF;have hE2:=Ext.app H2 [some [Value.int .i64 sr,.int .i64 sc,.int .i64 srr,.int .i64 src,.int .i64 (((E.length:Nat):Int)+(m:Nat)),.int .i64 sk,.int .i64 sb]];have g0:=hE2.get g0;have hw3:=hw3.mono hE2;have hx3:=hx2.trans hE2;have hl3:=hx3.1;clear hx2 hE2 hmx;generalize H2++[some [Value.int .i64 sr,.int .i64 sc,.int .i64 srr,.int .i64 src,.int .i64 (((E.length:Nat):Int)+(m:Nat)),.int .i64 sk,.int .i64 sb]]=K3 at *;generalize H2.length=b6 at *;have hpad:=Sg (lo:=lo) (H:=K3) (l:=zI E) (n:=((E.length:Nat):Int)+(m:Nat)) hw3 (by simp[zI];omega) (by exact⟨by show(-9223372036854775808:Int)<=_;omega,by show _<=(9223372036854775807:Int);omega⟩) byO;rw[show wJ (zI E) (((E.length:Nat):Int)+(m:Nat))=.inr ve from hpd.resolve_left id]at hpad;clear hpd hw3;refine Dn ?_;refine zG ?_;refine aC hpad ?_;rintro r K4 ⟨hx4,w,rfl,hw⟩;clear hpad;have g0:=hx4.get g0;have g6:=hx4.get g6;have hx4:=hx3.trans hx4;have hl4:=hx4.1;obtain⟨aw4,cw4,rfl⟩:=hw.len;have hpv:=Se (lo:=lo) (H:=K4) (s:=⟨sr,sc,srr,src,((E.length:Nat):Int)+(m:Nat),sk,sb⟩) hw hvl byO;clear hx3 hw;refine lF ?_;refine Dm ?_;refine aC hpv ?_;rintro r K5 ⟨hx5,hpr⟩;obtain⟨vo,rfl,hvo⟩:=hprot.resolve_left id hpr;clear hpv hpr hprot;have g0:=hx5.get g0;have g6:=hx5.get g6;have hx5:=hx4.trans hx5;have hl5:=hx5.1;have hp5:=Jo (lo:=lo) (H:=K5) (s:=⟨sr,sc,srr,src,((E.length:Nat):Int)+(m:Nat),sk,sb⟩) byO hvo;clear hx4;obtain⟨av5,cv5,rfl⟩:=hvo.len;clear hvo;refine lF ?_;refine Dm ?_;refine aC hp5 ?_;rintro r K6 ⟨hx6,hpr⟩;obtain⟨vd,rfl,hvd⟩:=hpl.resolve_left id hpr;clear hp5 hpr hpl;have g0:=hx6.get g0;have hx6:=hx5.trans hx6;have hl6:=hx6.1;have hg0:=Heap.get_lt g0;clear hx5 g6;obtain⟨avd,cvd,rfl⟩:=hvd.len;refine lF ?_;refine K2 ?_;exact⟨hx6.set (Nat.le_refl _),_,rfl,KK hvd hM g0⟩
theorem Iy{p:List UInt8}{sq:Bool}(hp:SlU H v p):Ev cp H.length 5 [v,.bool sq] H (fun r _=>r=.bool true):=by
 have hp0:=hp;obtain⟨ad,c0,rfl⟩:=hp.len;refine stG rfl rfl ?_;unfold bd5;simp only[kB,aD];refine lF ?_;refine VW ?_ ?_<;>intro h
 ·clear h
  refine zG ?_;refine aC (BO (Nat.le_refl _)) ?_;rintro r K ⟨hx,rfl⟩;refine lF ?_;refine K2 ?_;rfl
 have hl:p.length<=24:=by simp at h;omega
 clear h;refine zG ?_;refine aC (UD (sq:=sq) hp0 byO (Nat.le_refl _)) ?_;rintro r H1 ⟨hx1,cs,i,m,e,gf,q,hm,rfl,hq⟩;have hl1:=hx1.1;have hml:(mtB i e gf).length=((dz i).sz.r*(dz i).sz.c).toNat:=lW;have hsl:SlB H1 (.slice (some ⟨q,0,none⟩) ((dz i).sz.r*(dz i).sz.c).toNat ((dz i).sz.r*(dz i).sz.c).toNat) (mtB i e gf):=Sl.whole hq hml;have hbg:(mtB i e gf).length<=1000000000:=by
  rw[hml];have:=List.all_eq_true.1 JX i (List.mem_range.2 hm.lt);simpa using this
 have hV:=fun(K:Heap) (h:Ext H K)=>RT (lo:=H.length) (H:=K) hm (hp0.mono h) byO h.1;clear hm hq hp hp0;rw[<-hml]at hsl;rw[<-hml];clear hml;generalize mtB i e gf=M at *;generalize (dz i).sz=s at *;obtain⟨sr,sc,srr,src,sd,sk,sb⟩:=s;simp only at hV ⊢;replace hV:False\/_:=.inr hV;refine lF ?_;have hE:=Ext.app H1 [some [Value.int .i64 sc,.int .i64 sr,.slice (some ⟨q,0,none⟩) M.length M.length]];have g0:Heap.get (H1++[some [Value.int .i64 sc,.int .i64 sr,.slice (some ⟨q,0,none⟩) M.length M.length]]) H1.length=some [Value.int .i64 sc,.int .i64 sr,.slice (some ⟨q,0,none⟩) M.length M.length]:=aF;have hx2:=hx1.trans hE;have hsl:=hsl.mono hE;clear hE hx1;generalize H1++[some [Value.int .i64 sc,.int .i64 sr,.slice (some ⟨q,0,none⟩) M.length M.length]]=K at *;generalize H1.length=b1 at *;have hl2:=hx2.1;have hV2:=hV.resolve_left id K hx2;clear hV;refine Dm ?_;refine aC hV2 ?_;rintro r H3 ⟨hx3,vd,rfl,hvd⟩;clear hV2;obtain⟨avd,cvd,rfl⟩:=hvd.len;have g0:=hx3.get g0;have hsl:=hsl.mono hx3;have hx3:=hx2.trans hx3;have hl3:=hx3.1;clear hx2;refine lF ?_;have hE:=Ext.app H3 [some [Value.int .i64 sc,.int .i64 sr,.slice avd M.length cvd]];have g5:Heap.get (H3++[some [Value.int .i64 sc,.int .i64 sr,.slice avd M.length cvd]]) H3.length=some [Value.int .i64 sc,.int .i64 sr,.slice avd M.length cvd]:=aF;have g0:=hE.get g0;have hsl:=hsl.mono hE;have hvd:=hvd.mono hE;have hx4:=hx3.trans hE;clear hE hx3;generalize H3++[some [Value.int .i64 sc,.int .i64 sr,.slice avd M.length cvd]]=K4 at *;generalize H3.length=b3 at *;have hl4:=hx4.1;have hsm:=PU (lo:=H.length) (H:=K4) (w:=sc) (y:=sr) (w':=sc) (y':=sr) (a:=M) (b:=M) byO byO hsl hvd;simp only[decide_true,Bool.and_self]at hsm;clear hsl hvd;refine Th ?_;refine aC hsm ?_;rintro r K5 ⟨hx5,rfl⟩;clear hsm;have hx5:=hx4.trans hx5;have hl5:=hx5.1;refine lF ?_;refine Th ?_;refine aC (BO byO) ?_;rintro r K ⟨hx,rfl⟩;refine lF ?_;refine K2 ?_;rfl
end Go.Proofs.YtmnlgdpdgjbfgaaGreat
