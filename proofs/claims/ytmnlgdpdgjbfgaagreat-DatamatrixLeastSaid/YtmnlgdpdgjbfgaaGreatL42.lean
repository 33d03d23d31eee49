/- Lemmas. -/
import Derived.Test.YtmnlgdpdgjbfgaaGreatL37
import Derived.Test.YtmnlgdpdgjbfgaaGreatL41
set_option linter.all false
namespace Go.Proofs.YtmnlgdpdgjbfgaaGreat
open Go.Abs
variable{p:List UInt8}
set_option maxRecDepth 20000
def eN(i k:Nat):RN:=⟨i+k,4,k%4,0,false⟩
def ec(k:Nat):Nat:=if k=3 then 0 else 1
def y31(i k:Nat):RS:=⟨31,-1,-1,ec k,asR (i+k)⟩
def yc(p:List UInt8)(i k:Nat):RS:=⟨by' p (i+k)%64,-1,-1,ec k,eN i (k+1)⟩
theorem mO{N i k:Nat}(h:i+k<=N):(eN i k).ok N:=by
 have:=Nat.mod_lt k (show 0<4 by decide);exact⟨h,by simp[eN],⟨by simp only[eN];omega,fun e=>absurd rfl e,fun e=>by simp[eN]at e⟩,by simp[eN],fun _=>⟨rfl,rfl⟩⟩
theorem iP{i k:Nat}(hk:k<4):bW p (eN i k)=[y31 i k]++if i+k<p.length/\32<=by' p (i+k)/\by' p (i+k)<=94 then[yc p i k] else[]:=by
 have e1:mG (eN i k)=ec k:=by
  have:k=0\/k=1\/k=2\/k=3:=byO;rcases this with rfl|rfl|rfl|rfl<;>rfl
 have e2:(⟨i+k+1,4,(k%4+1)%4,0,false⟩:RN)=eN i (k+1):=by
  unfold eN;have h1:i+k+1=i+(k+1):=byO;have h2:(k%4+1)%4=(k+1)%4:=byO;rw[h1,h2]
 have h:bW p (eN i k)=[⟨31,-1,-1,mG (eN i k),asR (i+k)⟩]++if i+k<p.length/\32<=by' p (i+k)/\by' p (i+k)<=94 then[⟨by' p (i+k)%64,-1,-1,mG (eN i k),⟨i+k+1,4,(k%4+1)%4,0,false⟩⟩] else[]:=rfl
 rw[h,e1,e2];rfl
theorem q9{i k:Nat}:¬ qc p (eN i k):=fun e=>by have:=e.1;simp[eN]at this
theorem wK{p:List UInt8}{C:List Nat}(h:SolR p C){i:Nat}:∀d k,d+k=4->i+k<=p.length->Cn C (eN i k)<1099511627776 ->
  ∃j,(k<=j/\j<=4)/\(∀l,k<=l->l<j->okC p i l/\dQ p (eN i l) C=yc p i l/\Cn C (eN i l)=ec l+Cn C (eN i (l+1))/\Cn C (eN i l)<1099511627776)/\(j<4->dQ p (eN i j) C=y31 i j/\Cn C (eN i j)=ec j+Cn C (asR (i+j))/\Cn C (eN i j)<1099511627776)/\i+j<=p.length
 | 0,k,hk,hi,hf=>by
  have:k=4:=byO;subst this;exact⟨4,byO,fun l h1 h2=>byO,fun e=>byO,hi⟩
 | d+1,k,hk,hi,hf=>by
  obtain⟨hx,ht,_⟩:=jx h (mO hi) hf q9;have hti:dk C (dQ p (eN i k) C)=(dQ p (eN i k) C).c+Cn C (dQ p (eN i k) C).to:=rfl;rw[hti]at ht;replace ht:(dQ p (eN i k) C).c+Cn C (dQ p (eN i k) C).to=Cn C (eN i k):=ht;rw[iP byO]at hx;rcases List.mem_append.1 hx with hx|hx
  ·have hx:=List.mem_singleton.1 hx
   rw[hx]at ht;exact⟨k,byO,fun l h1 h2=>byO,fun _=>⟨hx,ht.symm,hf⟩,hi⟩
  ·split at hx
   ·rename_i hc
    have hx:=List.mem_singleton.1 hx;rw[hx]at ht;replace ht:ec k+Cn C (eN i (k+1))=Cn C (eN i k):=ht;obtain⟨j,h1,h2,h3,h4⟩:=wK (i:=i) h d (k+1) byO byO byO;refine⟨j,byO,fun l g1 g2=>?_,h3,h4⟩;by_cases e:l=k
    ·subst e
     exact⟨hc,hx,ht.symm,hf⟩
    ·exact h2 l byO g2
   ·cases hx
def oE(p:List UInt8)(i j:Nat):Opt:=if j<4 then fF (64*gA p i j+31) (j+1) (i+j) 0 else fF (gA p i 4) 4 (i+4) 18
theorem wJ{p:List UInt8}{i j:Nat}:∀k n,n+k=4->n<=j->j<=4->(∀l,n<=l->l<j->okC p i l)->oE p i j ∈ gg p i k n (gA p i n)
 | 0,n,h,h1,h2,_=>by
  have:j=4:=byO;subst this;have:n=4:=byO;subst this;unfold oE;rw[if_neg byO];simp[gg]
 | k+1,n,h,h1,h2,hc=>by
  simp only[gg];by_cases e:j=n
  ·subst e
   have e:oE p i j=fF (64*gA p i j+31) (j+1) (i+j) 0:=by
    unfold oE;rw[if_pos (show j<4 by omega)]
   rw[e];exact List.mem_cons_self
  ·refine List.mem_cons_of_mem _ ?_
   have hcn:=hc n (Nat.le_refl _) byO;unfold okC at hcn;rw[if_pos hcn];exact wJ k (n+1) byO byO h2 fun l g1 g2=>hc l byO g2
theorem qa{i:Nat}{o:Opt}:o ∈ oU p i↔∃j,j<=4/\(∀l,l<j->okC p i l)/\o=oE p i j:=by
 constructor
 ·intro h
  rcases zg (p:=p) (a:=i) 4 0 rfl h with ⟨j,h1,h2,h3,h4⟩|⟨h3,h4⟩
  ·exact⟨j,byO,fun l hl=>h3 l byO hl,by unfold oE;rw[if_pos h2];exact h4⟩
  ·exact⟨4,byO,fun l hl=>h3 l byO hl,by unfold oE;rw[if_neg byO];exact h4⟩
 ·rintro⟨j,h1,h2,rfl⟩
  exact wJ 4 0 rfl byO h1 fun l _ hl=>h2 l hl
def szE(j:Nat):Nat:=if j<4 then(6*(j+1)+7)/8 else 3
theorem yi{C:List Nat}{i j:Nat}(hj:j<=4):nG C (oE p i j)=szE j+Cn C (if j<4 then asR (i+j) else eN i 4):=by
 unfold oE szE;split
 ·rfl
 ·rfl
def csE(j:Nat):Nat:=if j<4 then j else 3
theorem xP{A B j sa sb:Nat}(hj:j<4)(h:A/2^(6*(3-j))<B/2^(6*(3-j)))(hB:B<16777216)(ha:(6*(j+1)+7)/8<=sa)(hb:(6*(j+1)+7)/8<=sb) :
  dR ([A/65536,A/256%256,A%256].take sa) ([B/65536,B/256%256,B%256].take sb)<0:=by
 have h3:j=0\/j=1\/j=2\/j=3:=byO;obtain⟨a,rfl⟩:∃a,sa=a+1:=⟨sa-1,byO⟩;obtain⟨b,rfl⟩:∃b,sb=b+1:=⟨sb-1,byO⟩;rw[List.take_succ_cons,List.take_succ_cons];by_cases e1:A/65536<B/65536
 ·exact fO e1
 rcases h3 with rfl|rfl|rfl|rfl
 ·simp only[Nat.reduceSub,Nat.reduceMul,Nat.reducePow]at h
  omega
 ·simp only[Nat.reduceSub,Nat.reduceMul,Nat.reducePow]at h
  have e2:A/65536=B/65536:=byO;rw[e2,eT];obtain⟨a,rfl⟩:∃a',a=a'+1:=⟨a-1,byO⟩;obtain⟨b,rfl⟩:∃b',b=b'+1:=⟨b-1,byO⟩;rw[List.take_succ_cons,List.take_succ_cons];exact fO byO
 ·simp only[Nat.reduceSub,Nat.reduceMul,Nat.reducePow]at h
  have e2:A/65536=B/65536:=byO;rw[e2,eT];obtain⟨a,rfl⟩:∃a',a=a'+2:=⟨a-2,byO⟩;obtain⟨b,rfl⟩:∃b',b=b'+2:=⟨b-2,byO⟩;rw[List.take_succ_cons,List.take_succ_cons,List.take_succ_cons,List.take_succ_cons];by_cases e3:A/256%256<B/256%256
  ·exact fO e3
  ·have e4:A/256%256=B/256%256:=byO
   rw[e4,eT];exact fO byO
 ·simp only[Nat.reduceSub,Nat.reduceMul,Nat.reducePow,Nat.div_one,Nat.mul_zero,Nat.pow_zero]at h
  have e2:A/65536=B/65536:=byO;rw[e2,eT];obtain⟨a,rfl⟩:∃a',a=a'+2:=⟨a-2,byO⟩;obtain⟨b,rfl⟩:∃b',b=b'+2:=⟨b-2,byO⟩;rw[List.take_succ_cons,List.take_succ_cons,List.take_succ_cons,List.take_succ_cons];by_cases e3:A/256%256<B/256%256
  ·exact fO e3
  ·have e4:A/256%256=B/256%256:=byO
   rw[e4,eT];exact fO byO
def vE(p:List UInt8)(i j:Nat):Nat:=if j<4 then(64*gA p i j+31)*2^(6*(3-j)) else gA p i 4
theorem Jx{i j:Nat}(hj:j<=4):hd (oE p i j)=[vE p i j/65536,vE p i j/256%256,vE p i j%256].take (szE j):=by
 have:j=0\/j=1\/j=2\/j=3\/j=4:=byO;rcases this with rfl|rfl|rfl|rfl|rfl
 ·rfl
 ·rfl
 ·rfl
 ·rfl
 ·show[gA p i 4*1/65536,gA p i 4*1/256%256,gA p i 4*1%256].take 3=_
  rw[Nat.mul_one];rfl
theorem E5{i j j':Nat}(h:j<j')(h':j'<=4):(31<by' p (i+j)%64->dR (hd (oE p i j)) (hd (oE p i j'))<0)/\(by' p (i+j)%64<31->dR (hd (oE p i j')) (hd (oE p i j))<0):=by
 have g0:gA p i 0=0:=rfl;have g1:gA p i 1=64*gA p i 0+by' p (i+0)%64:=rfl;have g2:gA p i 2=64*gA p i 1+by' p (i+1)%64:=rfl;have g3:gA p i 3=64*gA p i 2+by' p (i+2)%64:=rfl;have g4:gA p i 4=64*gA p i 3+by' p (i+3)%64:=rfl;have b0:by' p (i+0)%64<64:=Nat.mod_lt _ (by decide);have b1:by' p (i+1)%64<64:=Nat.mod_lt _ (by decide);have b2:by' p (i+2)%64<64:=Nat.mod_lt _ (by decide);have b3:by' p (i+3)%64<64:=Nat.mod_lt _ (by decide);rw[Jx byO,Jx h'];have key:(by' p (i+j)%64=vE p i j'/2^(6*(3-j))-64*gA p i j)/\64*gA p i j<=vE p i j'/2^(6*(3-j))/\vE p i j/2^(6*(3-j))=64*gA p i j+31/\vE p i j<16777216/\vE p i j'<16777216:=by
  have hj:j=0\/j=1\/j=2\/j=3:=byO;have hj':j'=1\/j'=2\/j'=3\/j'=4:=byO;rcases hj with rfl|rfl|rfl|rfl
  all_goals rcases hj' with rfl|rfl|rfl|rfl
  all_goals first|(exfalso;omega)|skip
  all_goals simp only[vE,Nat.reduceLT,Nat.lt_irrefl,if_true,if_false,Nat.reduceSub,Nat.reduceMul,Nat.reducePow,Nat.mul_zero,Nat.pow_zero,Nat.mul_one,Nat.div_one]
  all_goals refine⟨?_,?_,?_,?_,?_⟩
  all_goals first|omega|trivial
 have hsz:(6*(j+1)+7)/8<=szE j/\(6*(j+1)+7)/8<=szE j':=by
  unfold szE;split<;>split<;>omega
 obtain⟨k1,k2,k3,k4,k5⟩:=key;refine⟨fun e=>xP (j:=j) byO ?_ k5 hsz.1 hsz.2,fun e=>xP (j:=j) byO ?_ k4 hsz.2 hsz.1⟩
 ·rw[k3];omega
 ·rw[k3];omega
def chE(p:List UInt8)(i j:Nat):List Nat:=(List.range j).map fun k=>by' p (i+k)%64
theorem vb(p:List UInt8)(i j:Nat):chE p i (j+1)=chE p i j++[by' p (i+j)%64]:=by
 unfold chE;rw[List.range_succ,List.map_append];rfl
theorem GL(p:List UInt8)(i j:Nat):(chE p i j).length=j:=by simp[chE]
theorem Da{A L:List Nat}{B:Nat}(ha:∀k,A.getD k 0<B)(hl:∀k,L.getD k 0<B):∀k,(A++L).getD k 0<B:=by
 intro k;by_cases hk:k<A.length
 ·have:=ha k
  simp only[au₀]at this ⊢;rw[ax₀ hk];exact this
 ·have:=hl (k-A.length)
  simp only[au₀]at this ⊢;rw[aw₀ byO];exact this
theorem Cq(p:List UInt8)(i:Nat):∀j k,(chE p i j).getD k 0<64
 | 0,k=>by simp[chE]
 | j+1,k=>by
  rw[vb];exact lR (Cq p i j) (Nat.mod_lt _ (by decide)) k
theorem Hw{i j:Nat}(hj:j<=4):cE (chE p i j++if j<4 then[31] else[])=hd (oE p i j):=by
 have b0:by' p (i+0)%64<64:=Nat.mod_lt _ (by decide);have b1:by' p (i+1)%64<64:=Nat.mod_lt _ (by decide);have b2:by' p (i+2)%64<64:=Nat.mod_lt _ (by decide);have b3:by' p (i+3)%64<64:=Nat.mod_lt _ (by decide);have g1:gA p i 1=by' p (i+0)%64:=by show 64*0+by' p (i+0)%64=_;rw[Nat.mul_zero,Nat.zero_add]
 have g2:gA p i 2=64*gA p i 1+by' p (i+1)%64:=rfl;have g3:gA p i 3=64*gA p i 2+by' p (i+2)%64:=rfl;have g4:gA p i 4=64*gA p i 3+by' p (i+3)%64:=rfl;have:j=0\/j=1\/j=2\/j=3\/j=4:=byO;rcases this with rfl|rfl|rfl|rfl|rfl
 ·show cE [31]=hd (fF (64*0+31) 1 (i+0) 0)
  rw[PN (x:=i+0) (md:=0) (by decide)]
 ·show cE [by' p (i+0)%64,31]=hd (fF (64*gA p i 1+31) 2 (i+1) 0)
  rw[g1,PO b0 (by decide)]
 ·show cE [by' p (i+0)%64,by' p (i+1)%64,31]=hd (fF (64*gA p i 2+31) 3 (i+2) 0)
  rw[g2,g1,PQ b0 b1 (by decide)]
 ·show cE [by' p (i+0)%64,by' p (i+1)%64,by' p (i+2)%64,31]=hd (fF (64*gA p i 3+31) 4 (i+3) 0)
  rw[g3,g2,g1,KC b0 b1 b2 (by decide)]
 ·show cE [by' p (i+0)%64,by' p (i+1)%64,by' p (i+2)%64,by' p (i+3)%64]=hd (fF (gA p i 4) 4 (i+4) 18)
  rw[g4,g3,g2,g1,KC b0 b1 b2 b3]
theorem Dx{a b:RS}(h:a.w<b.w):dG a b=true:=by
 unfold dG;rw[if_pos byO];exact decide_eq_true h
theorem yj{i k:Nat}(h:okC p i k):by' p (i+k)%64≠31:=by
 unfold okC at h;omega
theorem LN{C:List Nat}(h:SolR p C){n:RN}(hn:n.ok p.length)(hm:n.m=4)(hp:n.ph=0)(hf:Cn C n<1099511627776):∃o,ChO p C n o:=by
 have hne:n=eN n.i 0:=by
  obtain⟨hs,hu⟩:=hn.s.2 (.inr byO);obtain⟨i,m,ph,s,u⟩:=n;simp only at hm hp hs hu;subst hm hp hs hu;rfl
 have hni:=hn.i;generalize n.i=i at hne hni;subst hne;have hop:∀{o},o ∈ gT p (eN i 0).i (stO (eN i 0))↔o ∈ oU p i:=Iff.rfl;obtain⟨j,⟨_,hj⟩,hc,hend,hij⟩:=wK (i:=i) h 4 0 rfl hni hf;have hcost:∀k,k<=j->Cn C (eN i 0)=csE k+Cn C (eN i k):=by
  intro k
  induction k with
  | zero=>intro _;simp[csE]
  | succ k ih=>
   intro hk;have h1:=ih byO;have h2:=(hc k byO byO).2.2.1;have h3:csE (k+1)=csE k+ec k:=by
    unfold csE ec;have:k=0\/k=1\/k=2\/k=3:=byO;rcases this with rfl|rfl|rfl|rfl<;>rfl
   omega
 have hsz:∀k,k<4->szE k=csE k+ec k:=by
  intro k hk;have:k=0\/k=1\/k=2\/k=3:=byO;rcases this with rfl|rfl|rfl|rfl<;>rfl
 refine⟨oE p i j,hop.2 (qa.2 ⟨j,hj,fun l hl=>(hc l (Nat.zero_le _) hl).1,rfl⟩),?_,?_,?_⟩
 ·rw[yi hj]
  have h1:=hcost j (Nat.le_refl _);by_cases h4:j<4
  ·rw[if_pos h4]
   have h2:=(hend h4).2.1;have h3:=hsz j h4;omega
  ·have:j=4:=byO
   subst this;rw[if_neg h4,h1];rfl
 ·intro o' ho' ht'
  obtain⟨j',hj',hc',rfl⟩:=qa.1 (hop.1 ho');rw[yi hj']at ht';by_cases e:j'=j
  ·exact .inl (by rw[e])
  ·refine .inr ?_
   have hcl:∀k,k<=j'->i+k<=p.length:=by
    intro k hk;by_cases e0:k=0
    ·subst e0;exact hni
    ·have:=hc' (k-1) byO
     unfold okC at this;omega
   by_cases hlt:j'<j
   ·have h4:j'<4:=byO
    rw[if_pos h4]at ht';obtain⟨c1,c2,c3,c4⟩:=hc j' (Nat.zero_le _) hlt;obtain⟨_,_,hle⟩:=jx h (mO (i:=i) (k:=j') (hcl j' (Nat.le_refl _))) c4 q9;rw[c2]at hle;have k1:=hle (y31 i j') (by rw[iP h4];simp) (by
     show ec j'+Cn C (asR (i+j'))=Cn C (eN i j');have:=hcost j' byO;have:=hsz j' h4;omega)
    have k2:=yj c1;refine(E5 hlt hj).2 ?_;refine Decidable.byContradiction fun e=>?_;rw[Dx (show(y31 i j').w<(yc p i j').w by show 31<by' p (i+j')%64;omega)]at k1;cases k1
   ·have hlt:j<j':=byO
    have h4:j<4:=byO;obtain⟨e1,e2,e3⟩:=hend h4;have c1:=hc' j hlt;obtain⟨_,_,hle⟩:=jx h (mO (i:=i) (k:=j) hij) e3 q9;rw[e1]at hle;have hdown:∀d k,k+d=j'->j<=k->csE k+Cn C (eN i k)<=szE j'+Cn C (if j'<4 then asR (i+j') else eN i 4):=by
     intro d
     induction d with
     | zero=>
      intro k hk _;have:k=j':=byO;subst this;by_cases hk4:k<4
      ·rw[if_pos hk4]
       have:=mN h (mO (i:=i) (k:=k) (hcl k (Nat.le_refl _))) (x:=y31 i k) (by rw[iP hk4];simp);have h5:(y31 i k).c+Cn C (y31 i k).to=ec k+Cn C (asR (i+k)):=rfl;have:=hsz k hk4;omega
      ·have:k=4:=byO
       subst this;exact Nat.le_refl _
     | succ d ih=>
      intro k hk hjk;have h1:=ih (k+1) byO byO;have hk4:k<4:=byO;have hok:=hc' k byO;have h2:=mN h (mO (i:=i) (k:=k) (hcl k byO)) (x:=yc p i k) (by
       rw[iP hk4];unfold okC at hok;rw[if_pos hok];simp)
      have h5:(yc p i k).c+Cn C (yc p i k).to=ec k+Cn C (eN i (k+1)):=rfl;have h3:csE (k+1)=csE k+ec k:=by
       unfold csE ec;have:k=0\/k=1\/k=2\/k=3:=byO;rcases this with rfl|rfl|rfl|rfl<;>rfl
      omega
    have hj1:=hdown (j'-(j+1)) (j+1) byO byO;have h3:csE (j+1)=csE j+ec j:=by
     unfold csE ec;have:j=0\/j=1\/j=2\/j=3:=byO;rcases this with rfl|rfl|rfl|rfl<;>rfl
    have hcj:=hcost j (Nat.le_refl _);have hmem:yc p i j ∈ bW p (eN i j):=by
     rw[iP h4];unfold okC at c1;rw[if_pos c1];simp
    have hup:=mN h (mO (i:=i) (k:=j) hij) hmem;have h5:(yc p i j).c+Cn C (yc p i j).to=ec j+Cn C (eN i (j+1)):=rfl;have k1:=hle (yc p i j) hmem (by
     show ec j+Cn C (eN i (j+1))=Cn C (eN i j);omega)
    have k2:=yj c1;refine(E5 hlt hj').1 ?_;refine Decidable.byContradiction fun e=>?_;rw[Dx (show(yc p i j).w<(y31 i j).w by show by' p (i+j)%64<31;omega)]at k1;cases k1
 ·intro f W Pt hm2 hP4 _ hpv
  have hP4:=hP4 rfl;have hrun:∀k,k<=j->∃f1,mea C (eN i k)<f1/\ku p C f (eN i 0) W Pt=ku p C f1 (eN i k) W (Pt++chE p i k):=by
   intro k
   induction k with
   | zero=>intro _;exact⟨f,hm2,by simp[chE]⟩
   | succ k ih=>
    intro hk;obtain⟨f1,h1,h2⟩:=ih byO;obtain⟨c1,c2,c3,c4⟩:=hc k (Nat.zero_le _) byO;obtain⟨f2,h3,h4⟩:=iE h (mO (i:=i) (k:=k) (by unfold okC at c1;omega)) c4 q9 h1 W (Pt++chE p i k);rw[c2]at h3 h4;refine⟨f2,h3,h2.trans (h4.trans ?_)⟩;have hem:di p (eN i k) (yc p i k) W (Pt++chE p i k)=(W,Pt++chE p i (k+1)):=by
     have:=yj c1;unfold di;rw[if_neg (by simp[eN]),if_pos (show(eN i k).m=4 from rfl),if_neg (show ¬ (yc p i k).w=31 from this),vb,<-ba₀];rfl
    rw[hem];rfl
  obtain⟨f1,h1,h2⟩:=hrun j (Nat.le_refl _);have hpk:=Hw (p:=p) (i:=i) hj;have hemt:emit p (W++cE Pt).length (eN i 0).i (oE p i j)=hd (oE p i j):=by
   unfold emit;rw[if_pos (by unfold oE;split<;>rfl)]
  rw[hemt];by_cases h4:j<4
  ·obtain⟨e1,e2,e3⟩:=hend h4
   obtain⟨f2,h5,h6⟩:=iE h (mO (i:=i) (k:=j) hij) e3 q9 h1 W (Pt++chE p i j);rw[e1]at h5 h6;have hnd:ndO (oE p i j).nx (oE p i j).md=asR (i+j):=by unfold oE;rw[if_pos h4];rfl
   have hem:di p (eN i j) (y31 i j) W (Pt++chE p i j)=(W++cE (Pt++chE p i j++[31]),[]):=by
    unfold di;rw[if_neg (by simp[eN]),if_pos (show(eN i j).m=4 from rfl),if_pos (show(y31 i j).w=31 from rfl)]
   rw[hem]at h6;rw[hnd];refine⟨f2,_,[],h5,h2.trans h6,?_,fun _=>rfl,fun _=>rfl,by simp⟩;rw[if_pos h4]at hpk;show W++cE (Pt++chE p i j++[31])++cE []=_;rw[show cE []=[] from rfl,List.append_nil,ba₀,tY hP4,hpk,ba₀]
  ·have:j=4:=byO
   subst this;have hnd:ndO (oE p i 4).nx (oE p i 4).md=eN i 4:=rfl;rw[hnd];refine⟨f1,W,Pt++chE p i 4,h1,h2,?_,fun _=>by rw[as₀,GL];omega,fun e=>absurd rfl e,Da hpv (Cq p i 4)⟩;rw[if_neg h4,List.append_nil]at hpk;rw[tY hP4,hpk,ba₀]
theorem zX{C:List Nat}(h:SolR p C){n:RN}(hn:n.ok p.length)(hp:n.ph=0)(hf:Cn C n<1099511627776)(he:¬ qc p n):∃o,ChO p C n o:=by
 have:=hn.m;by_cases h0:n.m=0
 ·exact LM h hn h0 hf he
 ·by_cases h4:n.m=4
  ·exact LN h hn h4 hp hf
  ·exact LO h hn byO hp hf
theorem E9{C:List Nat}(h:SolR p C){n:RN}(hn:n.ok p.length)(hp:n.ph=0){o:Opt}(ho:o ∈ gT p n.i (stO n)):Cn C n<=nG C o:=by
 have hm:=hn.m;by_cases h0:n.m=0
 ·have hst:stO n=0:=by unfold stO;rw[if_pos h0]
  rw[hst]at ho;obtain⟨y,hy,hpr⟩:=zO (show o ∈ jP p n.i from ho);rw[<-(yt (C:=C) hpr).1];exact mN h hn (by unfold bW;rw[if_pos h0];exact hy)
 ·by_cases h4:n.m=4
  ·obtain⟨hs,hu⟩:=hn.s.2 (.inr byO)
   have hni:=hn.i;have hne:n=eN n.i 0:=by
    obtain⟨i,m,ph,s,u⟩:=n;simp only at h4 hp hs hu;subst h4 hp hs hu;rfl
   generalize n.i=i at hne hni;subst hne;obtain⟨j,hj,hc,rfl⟩:=qa.1 (show o ∈ oU p i from ho);have hcl:∀k,k<=j->i+k<=p.length:=by
    intro k hk;by_cases e0:k=0
    ·subst e0;exact hni
    ·have:=hc (k-1) byO
     unfold okC at this;omega
   have hsz:∀k,k<4->szE k=csE k+ec k:=by
    intro k hk;have:k=0\/k=1\/k=2\/k=3:=byO;rcases this with rfl|rfl|rfl|rfl<;>rfl
   have hdown:∀d k,k+d=j->csE k+Cn C (eN i k)<=szE j+Cn C (if j<4 then asR (i+j) else eN i 4):=by
    intro d
    induction d with
    | zero=>
     intro k hk;have:k=j:=byO;subst this;by_cases hk4:k<4
     ·rw[if_pos hk4]
      have:=mN h (mO (i:=i) (k:=k) (hcl k (Nat.le_refl _))) (x:=y31 i k) (by rw[iP hk4];simp);have h5:(y31 i k).c+Cn C (y31 i k).to=ec k+Cn C (asR (i+k)):=rfl;have:=hsz k hk4;omega
     ·have:k=4:=byO
      subst this;exact Nat.le_refl _
    | succ d ih=>
     intro k hk;have h1:=ih (k+1) byO;have hk4:k<4:=byO;have hok:=hc k byO;have h2:=mN h (mO (i:=i) (k:=k) (hcl k byO)) (x:=yc p i k) (by
      rw[iP hk4];unfold okC at hok;rw[if_pos hok];simp)
     have h5:(yc p i k).c+Cn C (yc p i k).to=ec k+Cn C (eN i (k+1)):=rfl;have h3:csE (k+1)=csE k+ec k:=by
      unfold csE ec;have:k=0\/k=1\/k=2\/k=3:=byO;rcases this with rfl|rfl|rfl|rfl<;>rfl
     omega
   have:=hdown j 0 byO;rw[yi hj];have e0:csE 0=0:=rfl;omega
  ·have hm3:1<=n.m/\n.m<=3:=byO
   rcases(wk hn hm3 hp).1 ho with rfl|⟨u,v,w,t,⟨t1,t2,⟨g1,g2,g3⟩,hu,hv,hw⟩,rfl⟩
   ·exact mN h hn (x:=⟨254,-1,-1,1,⟨n.i,0,0,0,false⟩⟩) (by rw[jl hm3];exact wW hp 40)
   ·obtain⟨l1,l2,l3⟩:=zH h hn hm3 hp g1 g2 g3 hu hv hw
    obtain⟨c1,c2,c3⟩:=vU hn hm3 hp ⟨t1,t2,⟨g1,g2,g3⟩,hu,hv,hw⟩;have e0:nG C (j0 u v w t.i (stO t))=2+0+Cn C (ndO t.i (stO t)):=rfl;rw[e0,oa c1 c3];omega
theorem NH{C:List Nat}(h:SolR p C){a st m:Nat}(hp:Pth p a st m):Cn C (ndO a st)<=m:=by
 induction hp with
 | nil=>exact lP h 0 p.length byO
 | @cons a st m o ha hst ho _ ih=>
  obtain⟨h1,h2,h3,h4⟩:=uf ha hst;have:=E9 h h1 h2 (o:=o) (by rw[h3,h4];exact ho);unfold nG at this;omega
theorem LV{C:List Nat}(h:SolR p C):∀(k:Nat) {n:RN},n.ok p.length->n.ph=0->Cn C n=k->k<1099511627776->Pth p n.i (stO n) k:=by
 intro k
 induction k using Nat.strongRecOn with
 | ind k ih=>
  intro n hn hp hc hk;by_cases he:qc p n
  ·obtain⟨e1,e2⟩:=he
   have hne:n=asR p.length:=by
    obtain⟨hs,hu⟩:=hn.s.2 (.inl e1);obtain⟨i,m,ph,s,u⟩:=n;simp only at e1 e2 hp hs hu;subst e1 e2 hp hs hu;rfl
   have:Cn C (asR p.length)<=2*0:=lP h 0 p.length byO;rw[hne]at hc ⊢;have:k=0:=byO;subst this;exact .nil
  ·obtain⟨o,ho⟩:=zX h hn hp byO he
   have hok:=nm hn.i o ho.mem;obtain⟨h1,h2,h3,h4⟩:=uf hok.nx.2 hok.md;have ht:=ho.tot;unfold nG at ht;have hsz:=hok.sz;have hsub:=ih (Cn C (ndO o.nx o.md)) byO h1 h2 rfl byO;rw[h3,h4]at hsub;have:=Pth.cons hn.i (vP hn) ho.mem hsub;rw[show k=o.sz+o.run+Cn C (ndO o.nx o.md) by omega];exact this
theorem za{c:List Nat}(h:Sol p c)(hl:p.length<=4096){a st:Nat}(ha:a<=p.length)(hs:st<19):cst c a st<=10000:=by
 have h0:=km h (p.length-a) a byO;by_cases e:st=0
 ·subst e;omega
 ·have key:∀o ∈ dJ p c a st,o.sz=1->o.run=0->o.nx=a->o.md=0->cst c a st<=10000:=by
   intro o ho h1 h2 h3 h4;have:=(h.row a ha).fix st hs o ho;have ht:bD c o=o.sz+o.run+cst c o.nx o.md:=rfl;rw[h1,h2,h3,h4]at ht;show c.getD (a*19+st) 0<=_;omega
  have hl:eR a ∈ dJ p c a st\/fF 31 1 a 0 ∈ dJ p c a st:=by
   unfold dJ;rw[if_neg e];split
   ·exact .inl (by simp[im])
   ·split
    ·exact .inl (by simp[im])
    ·split
     ·exact .inl (by simp[sP])
     ·exact .inr (by simp[oU,gg])
  rcases hl with hl|hl
  ·exact key _ hl rfl rfl rfl rfl
  ·exact key _ hl rfl rfl rfl rfl
theorem pj{c C:List Nat}(hs:Sol p c)(h:SolR p C)(hl:p.length<=4096){n:RN}(hn:n.ok p.length)(hp:n.ph=0):Cn C n=cst c n.i (stO n):=by
 have hf:=za hs hl hn.i (vP hn);have h1:=NH h (BI hs _ hn.i (vP hn) rfl byO);rw[oa hn hp]at h1;have h2:=zZ hs (LV h _ hn hp rfl byO);omega
theorem NZ{c C:List Nat}(hs:Sol p c)(h:SolR p C)(hl:p.length<=4096){a st:Nat}{o:Opt}(ha:a<=p.length)(ho:o ∈ gT p a st):bD c o=nG C o:=by
 have hok:=nm ha o ho;obtain⟨h1,h2,h3,h4⟩:=uf hok.nx.2 hok.md;have e:=pj hs h hl h1 h2;rw[h3,h4]at e;show o.sz+o.run+cst c o.nx o.md=o.sz+o.run+Cn C (ndO o.nx o.md);rw[e]
theorem qU:∀{l m:List Nat},dR l m<0->¬ dR m l<0
 | [],[],h=>by simp[dR]at h
 | [],_::_,h=>by simp[dR]
 | _::_,[],h=>by simp[dR]at h
 | a::l,b::m,h=>by
  unfold dR at h ⊢;by_cases h1:a<b
  ·rw[if_neg byO,if_pos h1];decide
  ·rw[if_neg h1]at h
   by_cases h2:b<a
   ·rw[if_pos h2]at h;exact absurd h (by decide)
   ·rw[if_neg h2]at h
    rw[if_neg h2,if_neg h1];exact qU h
theorem fold_eq{c:List Nat}{cost:Nat}{o:Opt}(hz:1<=o.sz)(ht:bD c o=cost):∀(L:List Opt) (b:Opt),(b=o\/(o ∈ L/\(b=bm\/dR (hd o) (hd b)<0)))->(∀o' ∈ L,bD c o'=cost->o'=o\/dR (hd o) (hd o')<0)->L.foldl (fJ c cost) b=o
 | [],b,h,_=>by
  rcases h with h|⟨h,_⟩
  ·exact h
  ·cases h
 | x::L,b,h,hL=>by
  rw[List.foldl_cons];refine fold_eq hz ht L _ ?_ fun o' ho'=>hL o' (List.mem_cons_of_mem _ ho');unfold fJ;by_cases hx:x=o
  ·left
   rw[hx];rcases h with rfl|⟨h,hb⟩
   ·rw[ite_self]
   ·have hb2:b.sz=0\/dR (hd o) (hd b)<0:=by
     rcases hb with rfl|hb
     ·exact .inl rfl
     ·exact .inr hb
    rw[if_pos ⟨ht,hb2⟩]
  ·have hxx:=hL x (by simp)
   rcases h with rfl|⟨h,hb⟩
   ·left
    rw[if_neg];rintro⟨g1,g2⟩;rcases hxx g1 with e|e
    ·exact hx e
    ·rcases g2 with g|g
     ·omega
     ·exact absurd g (qU e)
   ·right
    refine⟨?_,?_⟩
    ·rcases List.mem_cons.1 h with e|h
     ·exact absurd e.symm hx
     ·exact h
    ·split
     ·rename_i hc
      rcases hxx hc.1 with e|e
      ·exact absurd e hx
      ·exact .inr e
     ·exact hb
theorem qI{c:List Nat}{a:Nat}:∀n,1<=n->∃k,1<=k/\k<=n/\fW c a n=cW a k/\∀d,1<=d->d<k->bD c (cW a k)<bD c (cW a d)
 | 0,h=>by omega
 | n+1,_=>by
  rw[fW];by_cases hn:n=0
  ·subst hn
   rw[if_pos rfl];exact⟨1,byO,byO,rfl,fun d h1 h2=>byO⟩
  ·rw[if_neg hn]
   obtain⟨k,h1,h2,h3,h4⟩:=qI (c:=c) (a:=a) n byO;by_cases h:bD c (cW a (n+1))<bD c (fW c a n)
   ·rw[if_pos h]
    refine⟨n+1,byO,Nat.le_refl _,rfl,fun d g1 g2=>?_⟩;exact bc₀ h (nP g1 byO)
   ·rw[if_neg h]
    exact⟨k,h1,byO,h3,h4⟩
theorem GP{c C:List Nat}(hs:Sol p c)(h:SolR p C)(hl:p.length<=4096){n:RN}(hn:n.ok p.length)(hp:n.ph=0){o:Opt}(ho:ChO p C n o):chs p c n.i (stO n)=o:=by
 have hok:=nm (st:=stO n) hn.i;have hce:=pj hs h hl hn hp;have htt:∀{o'},o' ∈ gT p n.i (stO n)->bD c o'=nG C o':=fun h'=>NZ hs h hl hn.i h';have hot:bD c o=cst c n.i (stO n):=by rw[htt ho.mem,ho.tot,hce]
 have hleast:∀o' ∈ gT p n.i (stO n),bD c o'=cst c n.i (stO n)->o'=o\/dR (hd o) (hd o')<0:=by
  intro o' ho' ht;exact ho.least o' ho' (by rw[<-htt ho',ht,hce])
 have hmem:o ∈ dJ p c n.i (stO n):=by
  have hm:=ho.mem;unfold gT at hm;unfold dJ;by_cases h0:stO n=0
  ·rw[if_pos h0]at hm ⊢
   unfold jP at hm;unfold oP;rcases List.mem_append.1 hm with hm|hm
   ·exact List.mem_append_left _ hm
   ·refine List.mem_append_right _ ?_
    split at hm
    ·rename_i hi
     rw[if_pos hi];rcases List.mem_append.1 hm with hm|hm
     ·exact List.mem_append_left _ hm
     ·refine List.mem_append_right _ ?_
      obtain⟨d,d1,d2,d3,rfl⟩:=fK.1 hm;obtain⟨k,k1,k2,k3,k4⟩:=qI (c:=c) (a:=n.i) (min (p.length-n.i) 1749) byO;have hle:=nP (c:=c) (a:=n.i) (n:=min (p.length-n.i) 1749) (k:=d) d1 byO;rw[k3]at hle;have hkm:cW n.i k ∈ gT p n.i (stO n):=by
       unfold gT;rw[if_pos h0];unfold jP;refine List.mem_append_right _ ?_;rw[if_pos hi];exact List.mem_append_right _ (fK.2 ⟨k,k1,byO,byO,rfl⟩)
      have hge:cst c n.i (stO n)<=bD c (cW n.i k):=by
       rw[htt hkm,<-hce];exact E9 h hn hp hkm
      unfold uG;rw[k3];rcases hleast _ hkm byO with e|e
      ·rw[e];simp
      ·by_cases hdk:d<k
       ·have:=k4 d d1 hdk
        omega
       ·by_cases hkd:k<d
        ·exact absurd e (qU (zV hkd))
        ·rw[show k=d by omega];simp
    ·cases hm
  ·rw[if_neg h0]at hm ⊢
   exact hm
 unfold chs m6;exact fold_eq (hok o ho.mem).sz.1 hot _ _ (.inr ⟨hmem,.inl rfl⟩) fun o' ho' ht=>hleast o' (wx ho') ht
theorem DU{c C:List Nat}(hs:Sol p c)(h:SolR p C)(hl:p.length<=4096):∀(k:Nat) {n:RN} {f g:Nat} {W Pt:List Nat},n.ok p.length->n.ph=0->Cn C n=k->mea C n<f->cst c n.i (stO n)<g->(n.m=4->Pt.length%4=0)->(n.m≠4->Pt=[])->(∀k,Pt.getD k 0<64)->ku p C f n W Pt=pD p c g n.i (stO n) (W++cE Pt):=by
 intro k
 induction k using Nat.strongRecOn with
 | ind k ih=>
  intro n f g W Pt hn hp hc hf hg hP4 hP0 hPv;have hce:=pj hs h hl hn hp;have hfin:=za hs hl hn.i (vP hn);obtain⟨g',rfl⟩:∃g',g=g'+1:=⟨g-1,byO⟩;by_cases he:qc p n
  ·obtain⟨e1,e2⟩:=he
   obtain⟨f',rfl⟩:∃f',f=f'+1:=⟨f-1,byO⟩;have hPt:=hP0 byO;subst hPt;have hst:stO n=0:=by unfold stO;rw[if_pos e1]
   have h1:ku p C (f'+1) n W []=W:=by
    show(if n.m≠0\/n.i<p.length then _ else W)=W;rw[if_neg byO]
   rw[h1,pD,if_pos ⟨hst,e2⟩,show cE []=[] from rfl,List.append_nil]
  ·obtain⟨o,ho⟩:=zX h hn hp byO he
   have hch:=GP hs h hl hn hp ho;have hok:=nm hn.i o ho.mem;obtain⟨h1,h2,h3,h4⟩:=uf hok.nx.2 hok.md;have ht:=ho.tot;unfold nG at ht;have hsz:=hok.sz;obtain⟨f',W',Pt',q1,q2,q3,q4,q5,q6⟩:=ho.em f W Pt hf hP4 hP0 hPv;have hce2:=pj hs h hl h1 h2;have:=ih (Cn C (ndO o.nx o.md)) byO (f:=f') (g:=g') (W:=W') (Pt:=Pt') h1 h2 rfl q1 byO q4 q5 q6;rw[q2,this,q3,h3,h4];have hne:¬ (stO n=0/\n.i=p.length):=by
    rintro⟨e1,e2⟩;refine he ⟨?_,e2⟩;have hx:=oa hn hp;rw[e1]at hx;rw[<-hx];rfl
   rw[pD,if_neg hne,hch]
theorem L6{c C:List Nat}(hs:Sol p c)(h:SolR p C)(hl:p.length<=4096):ku p C (mea C (asR 0)+1) (asR 0) [] []=kc p c:=by
 have:=DU hs h hl _ (n:=asR 0) (f:=mea C (asR 0)+1) (g:=cst c 0 0+1) (W:=[]) (Pt:=[]) (fY (Nat.zero_le _)) rfl rfl byO (Nat.lt_succ_self _) (fun _=>rfl) (fun _=>rfl) (by simp);exact this
open XJWd
end Go.Proofs.YtmnlgdpdgjbfgaaGreat
