/- Dmtext, the reference: what packing gives. Dmtext, the reference: its choice in EDIFACT is the program's. -/
import Derived.Test.YthnflhimcmdnbaaT37
set_option linter.unusedVariables false
set_option linter.unusedSimpArgs false
set_option linter.unusedSectionVars false
namespace Go.Proofs.Ythnflhimcmdnbaa
open Go.Abs
set_option linter.unusedSimpArgs false
set_option linter.unusedVariables false
set_option maxRecDepth 20000
def bsum(l:List Nat)(s:Nat):Nat→Nat
 | 0=>0
 | t+1=>bsum l s t+bitR l (s+t)*2^(7-t)
theorem bit_lt(l:List Nat)(k:Nat):bitR l k<2:=Nat.mod_lt _ (by decide)
theorem pkR_get{l:List Nat}:∀k,k≤6*l.length→∀q,q<(6*l.length+7)/8→(pkR l k).getD q 0=bsum l (8*q) (min 8 (k-8*q))
 | 0,_,q,hq=>by
  simp only[pkR,List.getD_eq_getElem?_getD,List.getElem?_replicate,if_pos hq,Nat.zero_sub,Nat.min_zero]
  rfl
 | k+1,hk,q,hq=>by
  have ih:=pkR_get (l:=l) k (by omega)
  have hl:=pkR_len l k
  have hb:=bit_lt l k
  have hs:(pkR l (k+1)).getD q 0=(pkR l k).getD q 0+if q=k/8 then bitR l k*2^(7-k%8) else 0:=by
   have hst:pkR l (k+1)=if bitR l k=1 then(pkR l k).set (k/8) ((pkR l k).getD (k/8) 0+2^(7-k%8)) else pkR l k:=rfl
   rw[hst]
   have hk8:k/8<(pkR l k).length:=by rw[hl];omega
   by_cases h1:bitR l k=1
   ·rw[if_pos h1,getD_set hk8]
    by_cases hq2:q=k/8
    ·subst hq2
     rw[if_pos rfl,if_pos rfl,h1,Nat.one_mul]
    ·rw[if_neg hq2,if_neg hq2,Nat.add_zero]
   ·have h0:bitR l k=0:=by omega
    rw[if_neg h1,h0,Nat.zero_mul,ite_self,Nat.add_zero]
  rw[hs,ih q hq]
  by_cases hq2:q=k/8
  ·rw[if_pos hq2]
   have e1:min 8 (k-8*q)=k%8:=by omega
   have e2:min 8 (k+1-8*q)=k%8+1:=by omega
   have e3:8*q+k%8=k:=by omega
   rw[e1,e2,bsum,e3]
  ·rw[if_neg hq2,Nat.add_zero]
   have e:min 8 (k-8*q)=min 8 (k+1-8*q):=by omega
   rw[e]
theorem packR_eq(l:List Nat):packR l=(List.range ((6*l.length+7)/8)).map fun q=>bsum l (8*q) (min 8 (6*l.length-8*q)):=by
 have hl:=packR_len l
 apply List.ext_getElem
 ·simp[hl]
 ·intro q h1 h2
  have:=pkR_get (l:=l) (6*l.length) (Nat.le_refl _) q (by omega)
  have e:(packR l).getD q 0=(packR l)[q]:=by simp[List.getD_eq_getElem?_getD,h1]
  rw[←e,List.getElem_map,List.getElem_range]
  exact this
theorem bsum_congr{l m:List Nat}{s r:Nat}:∀t,(∀i,i<t→bitR l (s+i)=bitR m (r+i))→bsum l s t=bsum m r t
 | 0,_=>rfl
 | t+1,h=>by
  rw[bsum,bsum,bsum_congr t (fun i hi=>h i (by omega)),h t (by omega)]
theorem bit_left{A L:List Nat}{k:Nat}(h:k<6*A.length):bitR (A++L) k=bitR A k:=by
 unfold bitR
 have e:(A++L).getD (k/6) 0=A.getD (k/6) 0:=by
  simp only[List.getD_eq_getElem?_getD]
  rw[List.getElem?_append_left (by omega)]
 rw[e]
theorem bit_right{A L:List Nat}{k:Nat}:bitR (A++L) (6*A.length+k)=bitR L k:=by
 unfold bitR
 have e1:(6*A.length+k)/6=A.length+k/6:=by omega
 have e2:(6*A.length+k)%6=k%6:=by omega
 have e:(A++L).getD (A.length+k/6) 0=L.getD (k/6) 0:=by
  simp only[List.getD_eq_getElem?_getD]
  rw[List.getElem?_append_right (by omega),Nat.add_sub_cancel_left]
 rw[e1,e2,e]
theorem packR_app{A L:List Nat}(h:A.length%4=0):packR (A++L)=packR A++packR L:=by
 obtain⟨m,hm⟩:∃m,A.length=4*m:=⟨A.length/4,by omega⟩
 rw[packR_eq (A++L),packR_eq A,packR_eq L]
 have hl:(6*(A++L).length+7)/8=3*m+(6*L.length+7)/8:=by rw[List.length_append];omega
 have hA:(6*A.length+7)/8=3*m:=by omega
 rw[hl,hA]
 apply List.ext_getElem
 ·simp
 ·intro q h1 h2
  simp only[List.length_map,List.length_range]at h1
  rw[List.getElem_map,List.getElem_range]
  by_cases hq:q<3*m
  ·rw[List.getElem_append_left (by simpa using hq),List.getElem_map,List.getElem_range]
   have e1:min 8 (6*(A++L).length-8*q)=8:=by rw[List.length_append];omega
   have e2:min 8 (6*A.length-8*q)=8:=by omega
   rw[e1,e2]
   exact bsum_congr 8 fun i hi=>bit_left (by omega)
  ·rw[List.getElem_append_right (by simp;omega),List.getElem_map,List.getElem_range]
   simp only[List.length_map,List.length_range]
   have e1:6*(A++L).length-8*q=6*L.length-8*(q-3*m):=by rw[List.length_append];omega
   rw[e1]
   refine bsum_congr _ fun i hi=>?_
   have e2:8*q+i=6*A.length+(8*(q-3*m)+i):=by omega
   rw[e2,bit_right]
theorem pack1{a x md:Nat}(h:a<64):packR [a]=hd (bitO a 1 x md):=by
 rw[packR_eq]
 have e:hd (bitO a 1 x md)=[a*262144/65536]:=rfl
 rw[e]
 simp only[List.length_cons,List.length_nil,Nat.reduceAdd,Nat.reduceMul,Nat.reduceDiv,List.range_succ,List.range_zero,List.nil_append,List.map_cons,List.map_nil,List.map_append,List.cons_append,Nat.mul_zero,Nat.sub_zero,Nat.reduceLeDiff,Nat.min_eq_right,Nat.reduceSub,Nat.min_def,if_true,if_false]
 simp only[bsum,bitR,Nat.reduceAdd,Nat.reduceDiv,Nat.reduceMod,Nat.reduceSub,Nat.reducePow,Nat.zero_add,Nat.add_zero,List.getD_cons_zero,List.getD_cons_succ,Nat.mul_one,Nat.div_one]
 congr 1
 omega
theorem pack2{a b x md:Nat}(ha:a<64)(hb:b<64):packR [a,b]=hd (bitO (64*a+b) 2 x md):=by
 rw[packR_eq]
 have e:hd (bitO (64*a+b) 2 x md)=[(64*a+b)*4096/65536,(64*a+b)*4096/256%256]:=rfl
 rw[e]
 simp only[List.length_cons,List.length_nil,Nat.reduceAdd,Nat.reduceMul,Nat.reduceDiv,List.range_succ,List.range_zero,List.nil_append,List.map_cons,List.map_nil,List.map_append,List.cons_append,Nat.mul_zero,Nat.sub_zero,Nat.reduceLeDiff,Nat.min_eq_right,Nat.reduceSub,Nat.min_def,if_true,if_false]
 simp only[bsum,bitR,Nat.reduceAdd,Nat.reduceDiv,Nat.reduceMod,Nat.reduceSub,Nat.reducePow,Nat.zero_add,Nat.add_zero,List.getD_cons_zero,List.getD_cons_succ,Nat.mul_one,Nat.div_one]
 congr 1
 ·omega
 ·congr 1
  omega
theorem pack3{a b c x md:Nat}(ha:a<64)(hb:b<64)(hc:c<64):packR [a,b,c]=hd (bitO (64*(64*a+b)+c) 3 x md):=by
 rw[packR_eq]
 have e:hd (bitO (64*(64*a+b)+c) 3 x md)=[(64*(64*a+b)+c)*64/65536,(64*(64*a+b)+c)*64/256%256,(64*(64*a+b)+c)*64%256]:=rfl
 rw[e]
 simp only[List.length_cons,List.length_nil,Nat.reduceAdd,Nat.reduceMul,Nat.reduceDiv,List.range_succ,List.range_zero,List.nil_append,List.map_cons,List.map_nil,List.map_append,List.cons_append,Nat.mul_zero,Nat.sub_zero,Nat.reduceLeDiff,Nat.min_eq_right,Nat.reduceSub,Nat.min_def,if_true,if_false]
 simp only[bsum,bitR,Nat.reduceAdd,Nat.reduceDiv,Nat.reduceMod,Nat.reduceSub,Nat.reducePow,Nat.zero_add,Nat.add_zero,List.getD_cons_zero,List.getD_cons_succ,Nat.mul_one,Nat.div_one]
 congr 1
 ·omega
 ·congr 1
  ·omega
  ·congr 1
   omega
theorem pack4{a b c d x md:Nat}(ha:a<64)(hb:b<64)(hc:c<64)(hd4:d<64):packR [a,b,c,d]=hd (bitO (64*(64*(64*a+b)+c)+d) 4 x md):=by
 rw[packR_eq]
 have e:hd (bitO (64*(64*(64*a+b)+c)+d) 4 x md)=[(64*(64*(64*a+b)+c)+d)*1/65536,(64*(64*(64*a+b)+c)+d)*1/256%256,(64*(64*(64*a+b)+c)+d)*1%256]:=rfl
 rw[e]
 simp only[List.length_cons,List.length_nil,Nat.reduceAdd,Nat.reduceMul,Nat.reduceDiv,List.range_succ,List.range_zero,List.nil_append,List.map_cons,List.map_nil,List.map_append,List.cons_append,Nat.mul_zero,Nat.sub_zero,Nat.reduceLeDiff,Nat.min_eq_right,Nat.reduceSub,Nat.min_def,if_true,if_false]
 simp only[bsum,bitR,Nat.reduceAdd,Nat.reduceDiv,Nat.reduceMod,Nat.reduceSub,Nat.reducePow,Nat.zero_add,Nat.add_zero,List.getD_cons_zero,List.getD_cons_succ,Nat.mul_one,Nat.div_one]
 congr 1
 ·omega
 ·congr 1
  ·omega
  ·congr 1
   omega
end Go.Proofs.Ythnflhimcmdnbaa
namespace Go.Proofs.Ythnflhimcmdnbaa
open Go.Abs
set_option linter.unusedSimpArgs false
set_option linter.unusedVariables false
set_option maxRecDepth 20000
def eN(i k:Nat):RN:=⟨i+k,4,k%4,0,false⟩
def ec(k:Nat):Nat:=if k=3 then 0 else 1
def y31(i k:Nat):RS:=⟨31,-1,-1,ec k,asR (i+k)⟩
def yc(p:List UInt8)(i k:Nat):RS:=⟨by' p (i+k)%64,-1,-1,ec k,eN i (k+1)⟩
theorem eN_ok{N i k:Nat}(h:i+k≤N):(eN i k).ok N:=by
 have:=Nat.mod_lt k (show 0<4 by decide)
 exact⟨h,by simp[eN],⟨by simp only[eN];omega,fun e=>absurd rfl e,fun e=>by simp[eN]at e⟩,by simp[eN],fun _=>⟨rfl,rfl⟩⟩
theorem eN_steps{p:List UInt8}{i k:Nat}(hk:k<4):stepsR p (eN i k)=[y31 i k]++if i+k<p.length∧32≤by' p (i+k)∧by' p (i+k)≤94 then[yc p i k] else[]:=by
 have e1:ediC (eN i k)=ec k:=by
  have:k=0∨k=1∨k=2∨k=3:=by omega
  rcases this with rfl|rfl|rfl|rfl<;>rfl
 have e2:(⟨i+k+1,4,(k%4+1)%4,0,false⟩:RN)=eN i (k+1):=by
  unfold eN
  have h1:i+k+1=i+(k+1):=by omega
  have h2:(k%4+1)%4=(k+1)%4:=by omega
  rw[h1,h2]
 have h:stepsR p (eN i k)=[⟨31,-1,-1,ediC (eN i k),asR (i+k)⟩]++if i+k<p.length∧32≤by' p (i+k)∧by' p (i+k)≤94 then[⟨by' p (i+k)%64,-1,-1,ediC (eN i k),⟨i+k+1,4,(k%4+1)%4,0,false⟩⟩] else[]:=rfl
 rw[h,e1,e2]
 rfl
theorem eN_not{p:List UInt8}{i k:Nat}:¬ endR p (eN i k):=fun e=>by have:=e.1;simp[eN]at this
theorem edi_walk{p:List UInt8}{C:List Nat}(h:SolR p C){i:Nat}:∀d k,d+k=4→i+k≤p.length→Cn C (eN i k)<1099511627776 →
  ∃j,(k≤j∧j≤4)∧(∀l,k≤l→l<j→okC p i l∧choR p (eN i l) C=yc p i l∧Cn C (eN i l)=ec l+Cn C (eN i (l+1))∧Cn C (eN i l)<1099511627776)∧(j<4→choR p (eN i j) C=y31 i j∧Cn C (eN i j)=ec j+Cn C (asR (i+j))∧Cn C (eN i j)<1099511627776)∧i+j≤p.length
 | 0,k,hk,hi,hf=>by
  have:k=4:=by omega
  subst this
  exact⟨4,by omega,fun l h1 h2=>by omega,fun e=>by omega,hi⟩
 | d+1,k,hk,hi,hf=>by
  obtain⟨hx,ht,_⟩:=cho_ok h (eN_ok hi) hf eN_not
  have hti:totR C (choR p (eN i k) C)=(choR p (eN i k) C).c+Cn C (choR p (eN i k) C).to:=rfl
  rw[hti]at ht
  replace ht:(choR p (eN i k) C).c+Cn C (choR p (eN i k) C).to=Cn C (eN i k):=ht
  rw[eN_steps (by omega)]at hx
  rcases List.mem_append.1 hx with hx|hx
  ·have hx:=List.mem_singleton.1 hx
   rw[hx]at ht
   exact⟨k,by omega,fun l h1 h2=>by omega,fun _=>⟨hx,ht.symm,hf⟩,hi⟩
  ·split at hx
   ·rename_i hc
    have hx:=List.mem_singleton.1 hx
    rw[hx]at ht
    replace ht:ec k+Cn C (eN i (k+1))=Cn C (eN i k):=ht
    obtain⟨j,h1,h2,h3,h4⟩:=edi_walk (i:=i) h d (k+1) (by omega) (by omega) (by omega)
    refine⟨j,by omega,fun l g1 g2=>?_,h3,h4⟩
    by_cases e:l=k
    ·subst e
     exact⟨hc,hx,ht.symm,hf⟩
    ·exact h2 l (by omega) g2
   ·cases hx
def oE(p:List UInt8)(i j:Nat):Opt:=if j<4 then bitO (64*gA p i j+31) (j+1) (i+j) 0 else bitO (gA p i 4) 4 (i+4) 18
theorem edi_mem2{p:List UInt8}{i j:Nat}:∀k n,n+k=4→n≤j→j≤4→(∀l,n≤l→l<j→okC p i l)→oE p i j ∈ ediR p i k n (gA p i n)
 | 0,n,h,h1,h2,_=>by
  have:j=4:=by omega
  subst this
  have:n=4:=by omega
  subst this
  unfold oE
  rw[if_neg (by omega)]
  simp[ediR]
 | k+1,n,h,h1,h2,hc=>by
  simp only[ediR]
  by_cases e:j=n
  ·subst e
   have e:oE p i j=bitO (64*gA p i j+31) (j+1) (i+j) 0:=by
    unfold oE
    rw[if_pos (show j<4 by omega)]
   rw[e]
   exact List.mem_cons_self
  ·refine List.mem_cons_of_mem _ ?_
   have hcn:=hc n (Nat.le_refl _) (by omega)
   unfold okC at hcn
   rw[if_pos hcn]
   exact edi_mem2 k (n+1) (by omega) (by omega) h2 fun l g1 g2=>hc l (by omega) g2
theorem ediS_iff{p:List UInt8}{i:Nat}{o:Opt}:o ∈ ediS p i↔∃j,j≤4∧(∀l,l<j→okC p i l)∧o=oE p i j:=by
 constructor
 ·intro h
  rcases edi_mem (p:=p) (a:=i) 4 0 rfl h with ⟨j,h1,h2,h3,h4⟩|⟨h3,h4⟩
  ·exact⟨j,by omega,fun l hl=>h3 l (by omega) hl,by unfold oE;rw[if_pos h2];exact h4⟩
  ·exact⟨4,by omega,fun l hl=>h3 l (by omega) hl,by unfold oE;rw[if_neg (by omega)];exact h4⟩
 ·rintro⟨j,h1,h2,rfl⟩
  exact edi_mem2 4 0 rfl (by omega) h1 fun l _ hl=>h2 l hl
def szE(j:Nat):Nat:=if j<4 then(6*(j+1)+7)/8 else 3
theorem oE_tot{p:List UInt8}{C:List Nat}{i j:Nat}(hj:j≤4):totO C (oE p i j)=szE j+Cn C (if j<4 then asR (i+j) else eN i 4):=by
 unfold oE szE
 split
 ·rfl
 ·rfl
def csE(j:Nat):Nat:=if j<4 then j else 3
theorem sext_cmp{A B j sa sb:Nat}(hj:j<4)(h:A/2^(6*(3-j))<B/2^(6*(3-j)))(hB:B<16777216)(ha:(6*(j+1)+7)/8≤sa)(hb:(6*(j+1)+7)/8≤sb) :
  cmpS ([A/65536,A/256%256,A%256].take sa) ([B/65536,B/256%256,B%256].take sb)<0:=by
 have h3:j=0∨j=1∨j=2∨j=3:=by omega
 obtain⟨a,rfl⟩:∃a,sa=a+1:=⟨sa-1,by omega⟩
 obtain⟨b,rfl⟩:∃b,sb=b+1:=⟨sb-1,by omega⟩
 rw[List.take_succ_cons,List.take_succ_cons]
 by_cases e1:A/65536<B/65536
 ·exact cmp_h0 e1
 rcases h3 with rfl|rfl|rfl|rfl
 ·simp only[Nat.reduceSub,Nat.reduceMul,Nat.reducePow]at h
  omega
 ·simp only[Nat.reduceSub,Nat.reduceMul,Nat.reducePow]at h
  have e2:A/65536=B/65536:=by omega
  rw[e2,cmp_same]
  obtain⟨a,rfl⟩:∃a',a=a'+1:=⟨a-1,by omega⟩
  obtain⟨b,rfl⟩:∃b',b=b'+1:=⟨b-1,by omega⟩
  rw[List.take_succ_cons,List.take_succ_cons]
  exact cmp_h0 (by omega)
 ·simp only[Nat.reduceSub,Nat.reduceMul,Nat.reducePow]at h
  have e2:A/65536=B/65536:=by omega
  rw[e2,cmp_same]
  obtain⟨a,rfl⟩:∃a',a=a'+2:=⟨a-2,by omega⟩
  obtain⟨b,rfl⟩:∃b',b=b'+2:=⟨b-2,by omega⟩
  rw[List.take_succ_cons,List.take_succ_cons,List.take_succ_cons,List.take_succ_cons]
  by_cases e3:A/256%256<B/256%256
  ·exact cmp_h0 e3
  ·have e4:A/256%256=B/256%256:=by omega
   rw[e4,cmp_same]
   exact cmp_h0 (by omega)
 ·simp only[Nat.reduceSub,Nat.reduceMul,Nat.reducePow,Nat.div_one,Nat.mul_zero,Nat.pow_zero]at h
  have e2:A/65536=B/65536:=by omega
  rw[e2,cmp_same]
  obtain⟨a,rfl⟩:∃a',a=a'+2:=⟨a-2,by omega⟩
  obtain⟨b,rfl⟩:∃b',b=b'+2:=⟨b-2,by omega⟩
  rw[List.take_succ_cons,List.take_succ_cons,List.take_succ_cons,List.take_succ_cons]
  by_cases e3:A/256%256<B/256%256
  ·exact cmp_h0 e3
  ·have e4:A/256%256=B/256%256:=by omega
   rw[e4,cmp_same]
   exact cmp_h0 (by omega)
def vE(p:List UInt8)(i j:Nat):Nat:=if j<4 then(64*gA p i j+31)*2^(6*(3-j)) else gA p i 4
theorem hd_oE{p:List UInt8}{i j:Nat}(hj:j≤4):hd (oE p i j)=[vE p i j/65536,vE p i j/256%256,vE p i j%256].take (szE j):=by
 have:j=0∨j=1∨j=2∨j=3∨j=4:=by omega
 rcases this with rfl|rfl|rfl|rfl|rfl
 ·rfl
 ·rfl
 ·rfl
 ·rfl
 ·show[gA p i 4*1/65536,gA p i 4*1/256%256,gA p i 4*1%256].take 3=_
  rw[Nat.mul_one];rfl
theorem oE_cmp{p:List UInt8}{i j j':Nat}(h:j<j')(h':j'≤4):(31<by' p (i+j)%64→cmpS (hd (oE p i j)) (hd (oE p i j'))<0)∧(by' p (i+j)%64<31→cmpS (hd (oE p i j')) (hd (oE p i j))<0):=by
 have g0:gA p i 0=0:=rfl
 have g1:gA p i 1=64*gA p i 0+by' p (i+0)%64:=rfl
 have g2:gA p i 2=64*gA p i 1+by' p (i+1)%64:=rfl
 have g3:gA p i 3=64*gA p i 2+by' p (i+2)%64:=rfl
 have g4:gA p i 4=64*gA p i 3+by' p (i+3)%64:=rfl
 have b0:by' p (i+0)%64<64:=Nat.mod_lt _ (by decide)
 have b1:by' p (i+1)%64<64:=Nat.mod_lt _ (by decide)
 have b2:by' p (i+2)%64<64:=Nat.mod_lt _ (by decide)
 have b3:by' p (i+3)%64<64:=Nat.mod_lt _ (by decide)
 rw[hd_oE (by omega),hd_oE h']
 have key:(by' p (i+j)%64=vE p i j'/2^(6*(3-j))-64*gA p i j)∧64*gA p i j≤vE p i j'/2^(6*(3-j))∧vE p i j/2^(6*(3-j))=64*gA p i j+31∧vE p i j<16777216∧vE p i j'<16777216:=by
  have hj:j=0∨j=1∨j=2∨j=3:=by omega
  have hj':j'=1∨j'=2∨j'=3∨j'=4:=by omega
  rcases hj with rfl|rfl|rfl|rfl
  all_goals rcases hj' with rfl|rfl|rfl|rfl
  all_goals first|(exfalso;omega)|skip
  all_goals simp only[vE,Nat.reduceLT,Nat.lt_irrefl,if_true,if_false,Nat.reduceSub,Nat.reduceMul,Nat.reducePow,Nat.mul_zero,Nat.pow_zero,Nat.mul_one,Nat.div_one]
  all_goals refine⟨?_,?_,?_,?_,?_⟩
  all_goals first|omega|trivial
 have hsz:(6*(j+1)+7)/8≤szE j∧(6*(j+1)+7)/8≤szE j':=by
  unfold szE;split<;>split<;>omega
 obtain⟨k1,k2,k3,k4,k5⟩:=key
 refine⟨fun e=>sext_cmp (j:=j) (by omega) ?_ k5 hsz.1 hsz.2,fun e=>sext_cmp (j:=j) (by omega) ?_ k4 hsz.2 hsz.1⟩
 ·rw[k3];omega
 ·rw[k3];omega
def chE(p:List UInt8)(i j:Nat):List Nat:=(List.range j).map fun k=>by' p (i+k)%64
theorem chE_succ(p:List UInt8)(i j:Nat):chE p i (j+1)=chE p i j++[by' p (i+j)%64]:=by
 unfold chE;rw[List.range_succ,List.map_append];rfl
theorem chE_len(p:List UInt8)(i j:Nat):(chE p i j).length=j:=by simp[chE]
theorem getD_app{A L:List Nat}{B:Nat}(ha:∀k,A.getD k 0<B)(hl:∀k,L.getD k 0<B):∀k,(A++L).getD k 0<B:=by
 intro k
 by_cases hk:k<A.length
 ·have:=ha k
  simp only[List.getD_eq_getElem?_getD]at this ⊢
  rw[List.getElem?_append_left hk]
  exact this
 ·have:=hl (k-A.length)
  simp only[List.getD_eq_getElem?_getD]at this ⊢
  rw[List.getElem?_append_right (by omega)]
  exact this
theorem chE_lt(p:List UInt8)(i:Nat):∀j k,(chE p i j).getD k 0<64
 | 0,k=>by simp[chE]
 | j+1,k=>by
  rw[chE_succ]
  exact getD_snoc (chE_lt p i j) (Nat.mod_lt _ (by decide)) k
theorem pack_oE{p:List UInt8}{i j:Nat}(hj:j≤4):packR (chE p i j++if j<4 then[31] else[])=hd (oE p i j):=by
 have b0:by' p (i+0)%64<64:=Nat.mod_lt _ (by decide)
 have b1:by' p (i+1)%64<64:=Nat.mod_lt _ (by decide)
 have b2:by' p (i+2)%64<64:=Nat.mod_lt _ (by decide)
 have b3:by' p (i+3)%64<64:=Nat.mod_lt _ (by decide)
 have g1:gA p i 1=by' p (i+0)%64:=by show 64*0+by' p (i+0)%64=_;rw[Nat.mul_zero,Nat.zero_add]
 have g2:gA p i 2=64*gA p i 1+by' p (i+1)%64:=rfl
 have g3:gA p i 3=64*gA p i 2+by' p (i+2)%64:=rfl
 have g4:gA p i 4=64*gA p i 3+by' p (i+3)%64:=rfl
 have:j=0∨j=1∨j=2∨j=3∨j=4:=by omega
 rcases this with rfl|rfl|rfl|rfl|rfl
 ·show packR [31]=hd (bitO (64*0+31) 1 (i+0) 0)
  rw[pack1 (x:=i+0) (md:=0) (by decide)]
 ·show packR [by' p (i+0)%64,31]=hd (bitO (64*gA p i 1+31) 2 (i+1) 0)
  rw[g1,pack2 b0 (by decide)]
 ·show packR [by' p (i+0)%64,by' p (i+1)%64,31]=hd (bitO (64*gA p i 2+31) 3 (i+2) 0)
  rw[g2,g1,pack3 b0 b1 (by decide)]
 ·show packR [by' p (i+0)%64,by' p (i+1)%64,by' p (i+2)%64,31]=hd (bitO (64*gA p i 3+31) 4 (i+3) 0)
  rw[g3,g2,g1,pack4 b0 b1 b2 (by decide)]
 ·show packR [by' p (i+0)%64,by' p (i+1)%64,by' p (i+2)%64,by' p (i+3)%64]=hd (bitO (gA p i 4) 4 (i+4) 18)
  rw[g4,g3,g2,g1,pack4 b0 b1 b2 b3]
theorem less_w{a b:RS}(h:a.w<b.w):lessR a b=true:=by
 unfold lessR
 rw[if_pos (by omega)];exact decide_eq_true h
theorem ok_mod{p:List UInt8}{i k:Nat}(h:okC p i k):by' p (i+k)%64≠31:=by
 unfold okC at h;omega
theorem ch_edi{p:List UInt8}{C:List Nat}(h:SolR p C){n:RN}(hn:n.ok p.length)(hm:n.m=4)(hp:n.ph=0)(hf:Cn C n<1099511627776):∃o,ChO p C n o:=by
 have hne:n=eN n.i 0:=by
  obtain⟨hs,hu⟩:=hn.s.2 (.inr (by omega))
  obtain⟨i,m,ph,s,u⟩:=n
  simp only at hm hp hs hu
  subst hm hp hs hu
  rfl
 have hni:=hn.i
 generalize n.i=i at hne hni
 subst hne
 have hop:∀{o},o ∈ optA p (eN i 0).i (stO (eN i 0))↔o ∈ ediS p i:=Iff.rfl
 obtain⟨j,⟨_,hj⟩,hc,hend,hij⟩:=edi_walk (i:=i) h 4 0 rfl hni hf
 have hcost:∀k,k≤j→Cn C (eN i 0)=csE k+Cn C (eN i k):=by
  intro k
  induction k with
  | zero=>intro _;simp[csE]
  | succ k ih=>
   intro hk
   have h1:=ih (by omega)
   have h2:=(hc k (by omega) (by omega)).2.2.1
   have h3:csE (k+1)=csE k+ec k:=by
    unfold csE ec
    have:k=0∨k=1∨k=2∨k=3:=by omega
    rcases this with rfl|rfl|rfl|rfl<;>rfl
   omega
 have hsz:∀k,k<4→szE k=csE k+ec k:=by
  intro k hk
  have:k=0∨k=1∨k=2∨k=3:=by omega
  rcases this with rfl|rfl|rfl|rfl<;>rfl
 refine⟨oE p i j,hop.2 (ediS_iff.2 ⟨j,hj,fun l hl=>(hc l (Nat.zero_le _) hl).1,rfl⟩),?_,?_,?_⟩
 ·rw[oE_tot hj]
  have h1:=hcost j (Nat.le_refl _)
  by_cases h4:j<4
  ·rw[if_pos h4]
   have h2:=(hend h4).2.1
   have h3:=hsz j h4
   omega
  ·have:j=4:=by omega
   subst this
   rw[if_neg h4,h1];rfl
 ·intro o' ho' ht'
  obtain⟨j',hj',hc',rfl⟩:=ediS_iff.1 (hop.1 ho')
  rw[oE_tot hj']at ht'
  by_cases e:j'=j
  ·exact .inl (by rw[e])
  ·refine .inr ?_
   have hcl:∀k,k≤j'→i+k≤p.length:=by
    intro k hk
    by_cases e0:k=0
    ·subst e0;exact hni
    ·have:=hc' (k-1) (by omega)
     unfold okC at this;omega
   by_cases hlt:j'<j
   ·have h4:j'<4:=by omega
    rw[if_pos h4]at ht'
    obtain⟨c1,c2,c3,c4⟩:=hc j' (Nat.zero_le _) hlt
    obtain⟨_,_,hle⟩:=cho_ok h (eN_ok (i:=i) (k:=j') (hcl j' (Nat.le_refl _))) c4 eN_not
    rw[c2]at hle
    have k1:=hle (y31 i j') (by rw[eN_steps h4];simp) (by
     show ec j'+Cn C (asR (i+j'))=Cn C (eN i j')
     have:=hcost j' (by omega)
     have:=hsz j' h4
     omega)
    have k2:=ok_mod c1
    refine(oE_cmp hlt hj).2 ?_
    refine Decidable.byContradiction fun e=>?_
    rw[less_w (show(y31 i j').w<(yc p i j').w by show 31<by' p (i+j')%64;omega)]at k1
    cases k1
   ·have hlt:j<j':=by omega
    have h4:j<4:=by omega
    obtain⟨e1,e2,e3⟩:=hend h4
    have c1:=hc' j hlt
    obtain⟨_,_,hle⟩:=cho_ok h (eN_ok (i:=i) (k:=j) hij) e3 eN_not
    rw[e1]at hle
    have hdown:∀d k,k+d=j'→j≤k→csE k+Cn C (eN i k)≤szE j'+Cn C (if j'<4 then asR (i+j') else eN i 4):=by
     intro d
     induction d with
     | zero=>
      intro k hk _
      have:k=j':=by omega
      subst this
      by_cases hk4:k<4
      ·rw[if_pos hk4]
       have:=cn_le h (eN_ok (i:=i) (k:=k) (hcl k (Nat.le_refl _))) (x:=y31 i k) (by rw[eN_steps hk4];simp)
       have h5:(y31 i k).c+Cn C (y31 i k).to=ec k+Cn C (asR (i+k)):=rfl
       have:=hsz k hk4
       omega
      ·have:k=4:=by omega
       subst this
       exact Nat.le_refl _
     | succ d ih=>
      intro k hk hjk
      have h1:=ih (k+1) (by omega) (by omega)
      have hk4:k<4:=by omega
      have hok:=hc' k (by omega)
      have h2:=cn_le h (eN_ok (i:=i) (k:=k) (hcl k (by omega))) (x:=yc p i k) (by
       rw[eN_steps hk4]
       unfold okC at hok
       rw[if_pos hok];simp)
      have h5:(yc p i k).c+Cn C (yc p i k).to=ec k+Cn C (eN i (k+1)):=rfl
      have h3:csE (k+1)=csE k+ec k:=by
       unfold csE ec
       have:k=0∨k=1∨k=2∨k=3:=by omega
       rcases this with rfl|rfl|rfl|rfl<;>rfl
      omega
    have hj1:=hdown (j'-(j+1)) (j+1) (by omega) (by omega)
    have h3:csE (j+1)=csE j+ec j:=by
     unfold csE ec
     have:j=0∨j=1∨j=2∨j=3:=by omega
     rcases this with rfl|rfl|rfl|rfl<;>rfl
    have hcj:=hcost j (Nat.le_refl _)
    have hmem:yc p i j ∈ stepsR p (eN i j):=by
     rw[eN_steps h4]
     unfold okC at c1
     rw[if_pos c1];simp
    have hup:=cn_le h (eN_ok (i:=i) (k:=j) hij) hmem
    have h5:(yc p i j).c+Cn C (yc p i j).to=ec j+Cn C (eN i (j+1)):=rfl
    have k1:=hle (yc p i j) hmem (by
     show ec j+Cn C (eN i (j+1))=Cn C (eN i j)
     omega)
    have k2:=ok_mod c1
    refine(oE_cmp hlt hj').1 ?_
    refine Decidable.byContradiction fun e=>?_
    rw[less_w (show(yc p i j).w<(y31 i j).w by show by' p (i+j)%64<31;omega)]at k1
    cases k1
 ·intro f W Pt hm2 hP4 _ hpv
  have hP4:=hP4 rfl
  have hrun:∀k,k≤j→∃f1,mea C (eN i k)<f1∧encR p C f (eN i 0) W Pt=encR p C f1 (eN i k) W (Pt++chE p i k):=by
   intro k
   induction k with
   | zero=>intro _;exact⟨f,hm2,by simp[chE]⟩
   | succ k ih=>
    intro hk
    obtain⟨f1,h1,h2⟩:=ih (by omega)
    obtain⟨c1,c2,c3,c4⟩:=hc k (Nat.zero_le _) (by omega)
    obtain⟨f2,h3,h4⟩:=encR_step h (eN_ok (i:=i) (k:=k) (by unfold okC at c1;omega)) c4 eN_not h1 W (Pt++chE p i k)
    rw[c2]at h3 h4
    refine⟨f2,h3,h2.trans (h4.trans ?_)⟩
    have hem:emitR p (eN i k) (yc p i k) W (Pt++chE p i k)=(W,Pt++chE p i (k+1)):=by
     have:=ok_mod c1
     unfold emitR
     rw[if_neg (by simp[eN]),if_pos (show(eN i k).m=4 from rfl),if_neg (show ¬ (yc p i k).w=31 from this),chE_succ,←List.append_assoc]
     rfl
    rw[hem]
    rfl
  obtain⟨f1,h1,h2⟩:=hrun j (Nat.le_refl _)
  have hpk:=pack_oE (p:=p) (i:=i) hj
  have hemt:emit p (W++packR Pt).length (eN i 0).i (oE p i j)=hd (oE p i j):=by
   unfold emit
   rw[if_pos (by unfold oE;split<;>rfl)]
  rw[hemt]
  by_cases h4:j<4
  ·obtain⟨e1,e2,e3⟩:=hend h4
   obtain⟨f2,h5,h6⟩:=encR_step h (eN_ok (i:=i) (k:=j) hij) e3 eN_not h1 W (Pt++chE p i j)
   rw[e1]at h5 h6
   have hnd:ndO (oE p i j).nx (oE p i j).md=asR (i+j):=by unfold oE;rw[if_pos h4];rfl
   have hem:emitR p (eN i j) (y31 i j) W (Pt++chE p i j)=(W++packR (Pt++chE p i j++[31]),[]):=by
    unfold emitR
    rw[if_neg (by simp[eN]),if_pos (show(eN i j).m=4 from rfl),if_pos (show(y31 i j).w=31 from rfl)]
   rw[hem]at h6
   rw[hnd]
   refine⟨f2,_,[],h5,h2.trans h6,?_,fun _=>rfl,fun _=>rfl,by simp⟩
   rw[if_pos h4]at hpk
   show W++packR (Pt++chE p i j++[31])++packR []=_
   rw[show packR []=[] from rfl,List.append_nil,List.append_assoc,packR_app hP4,hpk,List.append_assoc]
  ·have:j=4:=by omega
   subst this
   have hnd:ndO (oE p i 4).nx (oE p i 4).md=eN i 4:=rfl
   rw[hnd]
   refine⟨f1,W,Pt++chE p i 4,h1,h2,?_,fun _=>by rw[List.length_append,chE_len];omega,fun e=>absurd rfl e,getD_app hpv (chE_lt p i 4)⟩
   rw[if_neg h4,List.append_nil]at hpk
   rw[packR_app hP4,hpk,List.append_assoc]
end Go.Proofs.Ythnflhimcmdnbaa
