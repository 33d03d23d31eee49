/- Netpbm: numbers and headers. Netpbm: sizes; grays. Netpbm: plain bodies. Netpbm: plain bodies, as the program's parser reads them. -/
import Derived.Test.YtpbiaeiebhgmgaaDoorJ17
set_option linter.unusedVariables false
set_option linter.unusedSimpArgs false
set_option linter.unusedSectionVars false
namespace Go.Proofs.YtpbiaeiebhgmgaaDoor
open Go.Abs
set_option linter.unusedSimpArgs false
set_option linter.unusedVariables false
set_option maxRecDepth 20000
def hdrS(l:List UInt8)(i:Nat)(a c:Nat):Int ⊕ (Nat×Nat):=match numS l i with
 | .inl e=>.inl e
 | .inr (n,j)=>if l.length≤j then .inl 10 else if a≤n∧n≤c then .inr (n,j) else .inl 3
theorem numS_in{l:List UInt8}{i n j:Nat}(hi:i≤l.length)(h:numS l i=.inr (n,j)):n≤65536∧j≤l.length:=by
 unfold numS at h
 split at h
 ·cases h
 split at h
 ·cases h
 split at h
 ·cases h
 split at h
 ·cases h
 have:=digS_in l (skipS l i) 0 (by omega) (by omega)
 have e:=Sum.inr.inj h
 rw[e]at this
 exact⟨this.1,this.2.2⟩
theorem numS_err{l:List UInt8}{i:Nat}{e:Int}(h:numS l i=.inl e):e=10∨e=9:=by
 unfold numS at h
 split at h
 ·exact .inl (Sum.inl.inj h).symm
 split at h
 ·exact .inr (Sum.inl.inj h).symm
 split at h
 ·exact .inl (Sum.inl.inj h).symm
 split at h
 ·exact .inr (Sum.inl.inj h).symm
 cases h
section
variable {lo:Nat}{H:Heap}{l:List UInt8}{bw ow:Nat}{sp:Option Nat}{cap:Nat}{xs:List Value}
end
section
variable {lo:Nat}{H:Heap}{b:Nat}{l:List UInt8}{bw ow:Nat}{sp:Option Nat}{cap:Nat}{xs:List Value}
theorem hdrP{i a c:Nat}(hs:Src H b l bw ow sp cap xs)(hlo:lo≤b)(hi:i≤l.length):EvE cp lo 40 [ptr b,.int .i64 (a:Nat),.int .i64 (c:Nat)] (PS H b (srcV bw ow sp l cap) i)
  (fun r H'=>∃n j,hdrS l i a c=.inr (n,j)∧r=.int .i64 (n:Nat)∧H'=PS H b (srcV bw ow sp l cap) j) (fun r H'=>∃e j,hdrS l i a c=.inl e∧r=errI e∧H'=PS H b (srcV bw ow sp l cap) j):=by
 refine se40 ?_
 unfold bd40
 simp only[kB,ctlB]
 repeat' ((first|refine xSNb ?_|refine xONb rfl ?_);(try simp only[ctlB]))
 refine aw_callE (xENb) (by simp(disch:=first|omega|(simp only[lenB];omega))only[evB,xBNb,Nat.reduceAdd,Nat.reduceBEq, *]) (xENb) (numP hs hlo hi) ?_ ?_
 ·rintro r H1 ⟨n,j,hn,rfl,rfl⟩
  (try simp only[ctlB])
  repeat' ((first|refine xSNb ?_|refine xONb rfl ?_);(try simp only[ctlB]))
  refine xHNb ?_
  refine wpH_call0 (endedP hs) ?_
  rintro r H1 ⟨rfl,rfl⟩
  (try simp only[ctlB])
  refine aw_callE (xENb) (by simp(disch:=first|omega|(simp only[lenB];omega))only[evB,xBNb,Nat.reduceAdd,Nat.reduceBEq, *]) (xENb) checkP ?_ ?_
  ·rintro r H1 ⟨rfl,hb⟩
   have hj:¬ l.length≤j:=by simp at hb;omega
   clear hb
   (try simp only[ctlB])
   refine aw_callE (xENb) (by simp(disch:=first|omega|(simp only[lenB];omega))only[evB,xBNb,Nat.reduceAdd,Nat.reduceBEq, *]) (xENb) checkP ?_ ?_
   ·rintro r H1 ⟨rfl,hb⟩
    have hac:a≤n∧n≤c:=by simp at hb;omega
    clear hb
    (try simp only[ctlB])
    repeat' ((first|refine xSNb ?_|refine xONb rfl ?_);(try simp only[ctlB]))
    refine bodyE_r ?_
    unfold cf40
    refine body_ret (xENb) ?_
    exact⟨n,j,by unfold hdrS;rw[hn];simp only[];rw[if_neg hj,if_pos hac],rfl,rfl⟩
   ·rintro r H1 ⟨rfl,hb,rfl⟩
    have hac:¬ (a≤n∧n≤c):=by simp at hb;omega
    (repeat (first|rw[blockQ_p (by decide)]|simp only[seqQ_e,loopQ_e,midX_e]));refine bodyE_p ?_
    exact⟨3,j,by unfold hdrS;rw[hn];simp only[];rw[if_neg hj,if_neg hac],rfl,rfl⟩
  ·rintro r H1 ⟨rfl,hb,rfl⟩
   have hj:l.length≤j:=by simp at hb;omega
   (repeat (first|rw[blockQ_p (by decide)]|simp only[seqQ_e,loopQ_e,midX_e]));refine bodyE_p ?_
   exact⟨10,j,by unfold hdrS;rw[hn];simp only[];rw[if_pos hj],rfl,rfl⟩
 ·rintro r H1 ⟨e,j,hn,rfl,rfl⟩
  (repeat (first|rw[blockQ_p (by decide)]|simp only[seqQ_e,loopQ_e,midX_e]));refine bodyE_p ?_
  exact⟨e,j,by unfold hdrS;rw[hn],rfl,rfl⟩
end
end Go.Proofs.YtpbiaeiebhgmgaaDoor
namespace Go.Proofs.YtpbiaeiebhgmgaaDoor
open Go.Abs
set_option linter.unusedSimpArgs false
set_option linter.unusedVariables false
set_option maxRecDepth 20000
def scal(v m:Nat):UInt8:=UInt8.ofNat ((255*v+m/2)/m)
theorem scal_lt{v m:Nat}(h:v≤m)(hm:1≤m):(255*v+m/2)/m<256:=by
 refine Nat.div_lt_of_lt_mul ?_
 omega
theorem scal_nat{v m:Nat}(h:v≤m)(hm:1≤m):(scal v m).toNat=(255*v+m/2)/m:=by
 unfold scal
 rw[UInt8.toNat_ofNat_of_lt' (scal_lt h hm)]
section
variable {lo:Nat}{H:Heap}
theorem scal_int{v m:Nat}(h:v≤m)(hm:1≤m):(255*(v:Int)+((m/2:Nat):Int)).tdiv (m:Int)=((scal v m).toNat:Int):=by
 have e2:255*(v:Int)+((m/2:Nat):Int)=((255*v+m/2:Nat):Int):=by omega
 rw[e2,scal_nat h hm,Int.tdiv_eq_ediv_of_nonneg (by omega)]
 rfl
theorem gryP{v m:Nat}(h:v≤m)(hm:1≤m)(hm2:m≤255):Ev cp lo 55 [.int .i64 (v:Nat),.int .i64 (m:Nat)] H (fun r H'=>H=H'∧r=encU (scal v m)):=by
 have e1:(m:Int).tdiv 2=((m/2:Nat):Int):=by rw[Int.tdiv_eq_ediv_of_nonneg (by omega)];rfl
 have e:=scal_int h hm
 generalize scal v m=c at e ⊢
 have hcl:=c.toNat_lt
 refine st55 ?_;unfold bd55 cf55;simp only[kB,ctlB]
 repeat' ((first|refine xSNb ?_|refine xONb rfl ?_);(try simp only[ctlB]))
 refine xRNb ?_
 exact⟨rfl,rfl⟩
end
def headS(l:List UInt8)(f:Nat):Int ⊕ (Nat×Nat×Nat×Nat):=match hdrS l 2 0 65535 with
 | .inl e=>.inl e
 | .inr (w,i)=>match hdrS l i 0 65535 with
  | .inl e=>.inl e
  | .inr (h,j)=>if posB w h=false then .inl 23 else if f=2∨f=5 then(match hdrS l j 1 255 with
   | .inl e=>.inl e
   | .inr (m,k)=>.inr (w,h,m,k)) else .inr (w,h,1,j)
theorem hdrS_in{l:List UInt8}{i n j a c:Nat}(hi:i≤l.length)(h:hdrS l i a c=.inr (n,j)):a≤n∧n≤c∧j<l.length:=by
 unfold hdrS at h
 cases hn:numS l i with
 | inl e=>rw[hn]at h;cases h
 | inr p=>
  obtain⟨n',j'⟩:=p
  rw[hn]at h
  simp only[]at h
  split at h
  ·cases h
  split at h
  ·have e:=Sum.inr.inj h
   cases e
   have h2:a≤n∧n≤c:=by assumption
   have h1:¬ l.length≤j:=by assumption
   exact⟨h2.1,h2.2,by omega⟩
  ·cases h
theorem hdrS_err{l:List UInt8}{i a c:Nat}{e:Int}(h:hdrS l i a c=.inl e):e=10∨e=9∨e=3:=by
 unfold hdrS at h
 cases hn:numS l i with
 | inl e'=>
  rw[hn]at h
  have:=numS_err hn
  have e:=Sum.inl.inj h
  omega
 | inr p=>
  obtain⟨n',j'⟩:=p
  rw[hn]at h
  simp only[]at h
  split at h
  ·have e:=Sum.inl.inj h;omega
  split at h
  ·cases h
  ·have e:=Sum.inl.inj h;omega
section
variable {lo:Nat}{H:Heap}{l:List UInt8}{bw ow:Nat}{sp:Option Nat}{cap:Nat}{xs:List Value}
end
end Go.Proofs.YtpbiaeiebhgmgaaDoor
namespace Go.Proofs.YtpbiaeiebhgmgaaDoor
open Go.Abs
set_option linter.unusedSimpArgs false
set_option linter.unusedVariables false
set_option maxRecDepth 20000
def iterS{α:Type}(step:α→Int ⊕ α)(a:α):Nat→Int ⊕ α
 | 0=>.inr a
 | k+1=>match iterS step a k with
  | .inl e=>.inl e
  | .inr x=>step x
theorem iter_ok{α:Type}{step:α→Int ⊕ α}{a x:α}{k:Nat}(h:iterS step a k=.inr x):iterS step a (k+1)=step x:=by
 rw[iterS,h]
theorem iter_err{α:Type}{step:α→Int ⊕ α}{a:α}{e:Int}{k:Nat}(h:iterS step a k=.inl e):∀n,k≤n→iterS step a n=.inl e
 | 0,hn=>by
  obtain rfl:k=0:=by omega
  exact h
 | n+1,hn=>by
  by_cases hk:k=n+1
  ·rw[←hk];exact h
  ·rw[iterS,iter_err h n (by omega)]
def stepB(l:List UInt8)(s:List UInt8×Nat):Int ⊕ (List UInt8×Nat):=
 if l.length≤skipS l s.2 then .inl 10 else if ((l.getD (skipS l s.2) 0).toNat:Int)=48 then .inr (s.1++[255],skipS l s.2+1) else if ((l.getD (skipS l s.2) 0).toNat:Int)=49 then .inr (s.1++[0],skipS l s.2+1) else .inl 9
def stepV(l:List UInt8)(m:Nat)(s:List UInt8×Nat):Int ⊕ (List UInt8×Nat):=match numS l s.2 with
 | .inl e=>.inl e
 | .inr (n,j)=>if n≤m then .inr (s.1++[scal n m],j) else .inl 3
theorem stepB_in{l:List UInt8}{p:List UInt8}{i:Nat}{x:List UInt8×Nat}(h:stepB l (p,i)=.inr x):x.1.length=p.length+1∧x.2≤l.length:=by
 unfold stepB at h
 split at h
 ·cases h
 ·have hl:¬ l.length≤skipS l i:=by assumption
  split at h
  ·cases Sum.inr.inj h;simp;omega
  split at h
  ·cases Sum.inr.inj h;simp;omega
  ·cases h
theorem stepV_in{l:List UInt8}{p:List UInt8}{i m:Nat}{x:List UInt8×Nat}(hi:i≤l.length)(h:stepV l m (p,i)=.inr x):x.1.length=p.length+1∧x.2≤l.length:=by
 unfold stepV at h
 cases hn:numS l i with
 | inl e=>simp only[hn]at h;cases h
 | inr q=>
  obtain⟨n,j⟩:=q
  have:=numS_in hi hn
  simp only[hn]at h
  split at h
  ·cases Sum.inr.inj h;simp;omega
  ·cases h
theorem bits_in{l:List UInt8}{i:Nat}(hi:i≤l.length):∀{k:Nat} {x:List UInt8×Nat},iterS (stepB l) ([],i) k=.inr x→x.1.length=k∧x.2≤l.length
 | 0,x,h=>by cases Sum.inr.inj h;exact⟨rfl,hi⟩
 | k+1,x,h=>by
  cases hk:iterS (stepB l) ([],i) k with
  | inl e=>rw[iterS,hk]at h;cases h
  | inr y=>
   rw[iter_ok hk]at h
   have h1:=bits_in hi hk
   have h2:=stepB_in (p:=y.1) (i:=y.2) h
   omega
theorem vals_in{l:List UInt8}{i m:Nat}(hi:i≤l.length):∀{k:Nat} {x:List UInt8×Nat},iterS (stepV l m) ([],i) k=.inr x→x.1.length=k∧x.2≤l.length
 | 0,x,h=>by cases Sum.inr.inj h;exact⟨rfl,hi⟩
 | k+1,x,h=>by
  cases hk:iterS (stepV l m) ([],i) k with
  | inl e=>rw[iterS,hk]at h;cases h
  | inr y=>
   rw[iter_ok hk]at h
   have h1:=vals_in hi hk
   have h2:=stepV_in (p:=y.1) (i:=y.2) h1.2 h
   omega
section
variable {lo:Nat}{H:Heap}{l:List UInt8}{bw ow:Nat}{sp:Option Nat}{cap:Nat}{xs:List Value}
def valsS(l:List UInt8)(i n m:Nat):Int ⊕ (List UInt8×Nat):=match iterS (stepV l m) ([],i) n with
 | .inl e=>.inl e
 | .inr (px,p)=>if p<l.length∧isSep (l.getD p 0)=false then .inl 9 else .inr (px,p)
end
end Go.Proofs.YtpbiaeiebhgmgaaDoor
namespace Go.Proofs.YtpbiaeiebhgmgaaDoor
open Go.Abs
set_option linter.unusedSimpArgs false
set_option linter.unusedVariables false
set_option maxRecDepth 20000
theorem PS_push{H:Heap}{b:Nat}{v:Value}{i:Nat}{x:Option (List Value)}(h:b<H.length):PS H b v i++[x]=PS (H++[x]) b v i:=by
 unfold PS;rw[List.set_append_left _ _ h]
theorem PS_top{H:Heap}{b:Nat}{v:Value}{i:Nat}{c c':List Value}(h:b<H.length):List.set (PS (H++[some c]) b v i) H.length (some c')=PS (H++[some c']) b v i:=by
 unfold PS
 rw[List.set_append_left _ _ h,List.set_append_left _ _ h,List.set_append_right _ _ (by simp)]
 simp
theorem PS_topGet{H:Heap}{b:Nat}{v:Value}{i:Nat}{c:List Value}(h:b<H.length):(PS (H++[some c]) b v i).get H.length=some c:=by
 rw[PS_other (by omega),get_app0]
theorem Src.push{H:Heap}{b:Nat}{l:List UInt8}{bw ow:Nat}{sp:Option Nat}{cap:Nat}{xs:List Value}(hs:Src H b l bw ow sp cap xs)(c:List Value):Src (H++[some c]) b l bw ow sp cap xs:=
 ⟨(Ext.app _ _).get hs.get,hs.at',hs.ne,by have:=hs.lt;simp;omega,hs.len,hs.sp1,hs.cap⟩
def pixR(H:Heap)(b:Nat)(v:Value)(s:Int ⊕ (List UInt8×Nat))(r:Value)(H':Heap):Prop:=∃H2 px p,s=.inr (px,p)∧Ext H H2∧H'=PS H2 b v p∧SlU H' r px
def pixK(H:Heap)(b:Nat)(v:Value)(s:Int ⊕ (List UInt8×Nat))(r:Value)(H':Heap):Prop:=∃H2 e p,s=.inl e∧Ext H H2∧H'=PS H2 b v p∧r=errI e
section
variable {lo:Nat}{H:Heap}{b:Nat}{l:List UInt8}{bw ow:Nat}{sp:Option Nat}{cap:Nat}{xs:List Value}
theorem zs_set(px:List UInt8)(m:Nat)(c:UInt8):(uL px++List.replicate (m+1) (Value.int .u8 0)).set px.length (encU c)=uL (px++[c])++List.replicate m (Value.int .u8 0):=by
 rw[List.set_append_right _ _ (by rw[uL_len];exact Nat.le_refl _),uL_len,Nat.sub_self,List.replicate_succ,List.set_cons_zero,uL_app]
 simp[uL]
theorem zs_keep(px:List UInt8)(m:Nat):uL px++List.replicate (m+1) (Value.int .u8 0)=uL (px++[0])++List.replicate m (Value.int .u8 0):=by
 rw[List.replicate_succ,uL_app]
 simp[uL,encU]
theorem zeros_u8(n:Nat):zeros [Value.int .u8 0] n=List.replicate n (Value.int .u8 0):=by
 induction n with
 | zero=>rfl
 | succ n ih=>rw[List.replicate_succ,←ih];rfl
theorem bitsP{i n:Nat}(hs:Src H b l bw ow sp cap xs)(hlo:lo≤b)(hi:i≤l.length)(hn:n≤4194304):EvE cp lo 45 [ptr b,.int .i64 (n:Nat)] (PS H b (srcV bw ow sp l cap) i)
  (pixR H b (srcV bw ow sp l cap) (iterS (stepB l) ([],i) n)) (pixK H b (srcV bw ow sp l cap) (iterS (stepB l) ([],i) n)):=by
 have hlen:=hs.len
 have hbl:=hs.lt
 have hln:(PS H b (srcV bw ow sp l cap) i).length=H.length:=PS_len i
 refine se45 ?_
 unfold bd45
 simp only[kB,ctlB]
 repeat' ((first|refine xSNb ?_|refine xONb rfl ?_);(try simp only[ctlB]))
 rw[PS_push hbl,zeros_u8]
 refine aw_for (fun k S H'=>∃px p,iterS (stepB l) ([],i) k=.inr (px,p)∧H'=PS (H++[some (uL px++List.replicate (n-k) (Value.int .u8 0))]) b (srcV bw ow sp l cap) p∧∃(z:Nat→Value),S=[ptr b,.int .i64 (n:Nat),z 2,.slice (some ⟨H.length,0,none⟩) n n,z 4,z 5,z 6,.int .i64 (n:Nat),.int .i64 (k:Nat),z 9]) n ?_ ?_ ?_ ?_
 ·exact⟨[],i,rfl,rfl,exZNf rfl⟩
 ·rintro k S H' hk ⟨px,p,_,_,z,rfl⟩
  exact⟨_,xENb,by simp⟩
 ·rintro k S H' hkn ⟨px,p,hk,rfl,z,rfl⟩
  obtain⟨hpl,hp⟩:=bits_in hi hk
  simp only[]at hpl hp
  have hst:∀y,stepB l (px,p)=y→iterS (stepB l) ([],i) (k+1)=y:=fun y h=>(iter_ok hk).trans h
  have hall:∀e,stepB l (px,p)=.inl e→iterS (stepB l) ([],i) n=.inl e:=fun e h=>iter_err (hst _ h) n hkn
  replace hst:False∨_:=.inr hst
  replace hall:False∨_:=.inr hall
  clear hk
  obtain⟨r,hr1,hr2⟩:∃r,n-k≤r+1∧r+1≤n-k:=⟨n-k-1,by omega,by omega⟩
  have hnk:n-k=r+1:=by omega
  have hr3:n-(k+1)=r:=by omega
  rw[hnk]
  clear hnk
  replace hr3:False∨_:=.inr hr3
  have hset1:=zs_set px r 255
  have hset2:=zs_keep px r
  have hcsl:k<(uL px++List.replicate (r+1) (Value.int .u8 0)).length:=by rw[List.length_append,uL_len];simp;omega
  rw[hpl]at hset1
  generalize uL px++List.replicate (r+1) (Value.int .u8 0)=cs at hset1 hset2 hcsl ⊢
  replace hset1:False∨_:=.inr hset1
  replace hset2:False∨_:=.inr hset2
  replace hpl:px.length≤k∧k≤px.length:=by omega
  have hsx:=hs.push cs
  have hE:Ext H (H++[some cs]):=Ext.app _ _
  have hjle:=skip_le l p hp
  (try simp only[ctlB])
  repeat' ((first|refine xSNb ?_|refine xONb rfl ?_);(try simp only[ctlB]))
  refine xHNb ?_
  refine wpH_call0 (skipP hsx hlo hp) ?_
  rintro r1 H2 rfl
  (try simp only[ctlB])
  refine xHNb ?_
  refine wpH_call0 (endedP hsx) ?_
  rintro r1 H2 ⟨rfl,rfl⟩
  (try simp only[ctlB])
  refine aw_callE (xENb) (by simp(disch:=first|omega|(simp only[lenB];omega))only[evB,xBNb,Nat.reduceAdd,Nat.reduceBEq, *]) (xENb) checkP ?_ ?_
  ·rintro r1 H2 ⟨rfl,hb⟩
   have hjl:skipS l p<l.length:=by simp at hb;omega
   clear hb
   have hat:=hs.at' (skipS l p) hjl
   have hsB:stepB l (px,p)=if ((l.getD (skipS l p) 0).toNat:Int)=48 then .inr (px++[255],skipS l p+1) else if ((l.getD (skipS l p) 0).toNat:Int)=49 then .inr (px++[0],skipS l p+1) else .inl 9:=by
    rw[stepB,if_neg (show ¬ l.length≤skipS l p by omega)]
   generalize skipS l p=j at hjle hjl hat hsB ⊢
   generalize l.getD j 0=c at hat hsB
   have hcl:=c.toNat_lt
   have g1:=PS_get (v:=srcV bw ow sp l cap) hsx.lt j
   have g2:=(PS_other (v:=srcV bw ow sp l cap) hsx.ne j).trans hsx.get
   have g3:=PS_topGet (v:=srcV bw ow sp l cap) (i:=j) (c:=cs) hbl
   have g4:b<(PS (H++[some cs]) b (srcV bw ow sp l cap) j).length:=by rw[PS_len];exact hsx.lt
   (try simp only[ctlB])
   repeat' ((first|refine xSNb ?_|refine xONb rfl ?_);(try simp only[ctlB]))
   refine aw_callE (xENb) (by simp(disch:=first|omega|(simp only[lenB];omega))only[evB,xBNb,Nat.reduceAdd,Nat.reduceBEq, *]) (xENb) checkP ?_ ?_
   ·rintro r1 H2 ⟨rfl,hb⟩
    have hset:List.set (PS (H++[some cs]) b (srcV bw ow sp l cap) j) b (some [srcV bw ow sp l cap,.int .i64 ((j:Int)+1)])=PS (H++[some cs]) b (srcV bw ow sp l cap) (j+1):=PS_set j (j+1)
    have g5:=PS_topGet (v:=srcV bw ow sp l cap) (i:=j+1) (c:=cs) hbl
    have hset3:∀c',List.set (PS (H++[some cs]) b (srcV bw ow sp l cap) (j+1)) H.length (some c')=PS (H++[some c']) b (srcV bw ow sp l cap) (j+1):=fun c'=>PS_top hbl
    have hloH:lo≤H.length:=by omega
    replace hb:(c.toNat:Int)=48∨(c.toNat:Int)=49:=by simpa using hb
    replace hb:False∨_:=.inr hb
    (try simp only[ctlB])
    repeat' ((first|refine xSNb ?_|refine xONb rfl ?_);(try simp only[ctlB]))
    refine xCNb (fun h=>?_) (fun h=>?_)
    ·have h48:(c.toNat:Int)=48:=of_decide_eq_true h
     rw[if_pos h48]at hsB
     replace hsB:False∨_:=.inr hsB
     clear h h48
     (try simp only[ctlB])
     repeat' ((first|refine xSNb ?_|refine xONb rfl ?_);(try simp only[ctlB]))
     refine⟨px++[255],j+1,hst.resolve_left id _ (hsB.resolve_left id),?_,exZNf (by first|rfl|(simp only[Int.natCast_add,Int.natCast_one];rfl)|simp only[Int.natCast_add,Int.natCast_one])⟩
     rw[hr3.resolve_left id,←hset1.resolve_left id]
     rfl
    ·have h48:¬ (c.toNat:Int)=48:=of_decide_eq_false h
     rw[if_neg h48,if_pos (by have:=hb.resolve_left id;omega)]at hsB
     replace hsB:False∨_:=.inr hsB
     clear h h48
     (try simp only[ctlB])
     repeat' ((first|refine xSNb ?_|refine xONb rfl ?_);(try simp only[ctlB]))
     refine⟨px++[0],j+1,hst.resolve_left id _ (hsB.resolve_left id),?_,exZNf (by first|rfl|(simp only[Int.natCast_add,Int.natCast_one];rfl)|simp only[Int.natCast_add,Int.natCast_one])⟩
     rw[hr3.resolve_left id,←hset2.resolve_left id]
   ·rintro r1 H2 ⟨rfl,hb,rfl⟩
    (repeat (first|rw[blockQ_p (by decide)]|simp only[seqQ_e,loopQ_e,midX_e]));refine bodyE_p ?_
    refine⟨_,9,j,hall.resolve_left id 9 ?_,hE,rfl,rfl⟩
    rw[hsB,if_neg (by simp at hb;omega),if_neg (by simp at hb;omega)]
  ·rintro r1 H2 ⟨rfl,hb,rfl⟩
   (repeat (first|rw[blockQ_p (by decide)]|simp only[seqQ_e,loopQ_e,midX_e]));refine bodyE_p ?_
   exact⟨_,10,_,hall.resolve_left id 10 (by unfold stepB;rw[if_pos (by simpa using hb)]),hE,rfl,rfl⟩
 ·rintro S H' ⟨px,p,hk,rfl,z,rfl⟩
  have hpl:=(bits_in hi hk).1
  simp only[]at hpl
  rw[Nat.sub_self,List.replicate_zero,List.append_nil]
  (try simp only[ctlB])
  repeat' ((first|refine xSNb ?_|refine xONb rfl ?_);(try simp only[ctlB]))
  refine bodyE_r ?_
  unfold cf45
  refine body_ret (xENb) ?_
  exact⟨_,px,p,hk,Ext.app _ _,rfl,Sl.whole (PS_topGet hbl) hpl⟩
theorem valsP{i n g:Nat}(hs:Src H b l bw ow sp cap xs)(hlo:lo≤b)(hi:i≤l.length)(hn:n≤4194304)(hg1:1≤g)(hg2:g≤255):EvE cp lo 43 [ptr b,.int .i64 (n:Nat),.int .i64 (g:Nat)] (PS H b (srcV bw ow sp l cap) i)
  (pixR H b (srcV bw ow sp l cap) (valsS l i n g)) (pixK H b (srcV bw ow sp l cap) (valsS l i n g)):=by
 have hlen:=hs.len
 have hbl:=hs.lt
 have hln:(PS H b (srcV bw ow sp l cap) i).length=H.length:=PS_len i
 have hvE:∀e,iterS (stepV l g) ([],i) n=.inl e→valsS l i n g=.inl e:=fun e h=>by unfold valsS;rw[h]
 have hvR:∀px p,iterS (stepV l g) ([],i) n=.inr (px,p)→valsS l i n g=if p<l.length∧isSep (l.getD p 0)=false then .inl 9 else .inr (px,p):=fun px p h=>by unfold valsS;rw[h]
 generalize valsS l i n g=W at hvE hvR
 replace hvE:False∨_:=.inr hvE
 replace hvR:False∨_:=.inr hvR
 refine se43 ?_
 unfold bd43
 simp only[kB,ctlB]
 repeat' ((first|refine xSNb ?_|refine xONb rfl ?_);(try simp only[ctlB]))
 rw[PS_push hbl,zeros_u8]
 refine aw_for (fun k S H'=>∃px p,iterS (stepV l g) ([],i) k=.inr (px,p)∧H'=PS (H++[some (uL px++List.replicate (n-k) (Value.int .u8 0))]) b (srcV bw ow sp l cap) p∧∃(z:Nat→Value),S=[ptr b,.int .i64 (n:Nat),.int .i64 (g:Nat),z 3,.slice (some ⟨H.length,0,none⟩) n n,z 5,z 6,z 7,.int .i64 (n:Nat),.int .i64 (k:Nat),z 10,z 11,z 12,z 13,z 14,z 15,z 16]) n ?_ ?_ ?_ ?_
 ·exact⟨[],i,rfl,rfl,exZNf rfl⟩
 ·rintro k S H' hk ⟨px,p,_,_,z,rfl⟩
  exact⟨_,xENb,by simp⟩
 ·rintro k S H' hkn ⟨px,p,hk,rfl,z,rfl⟩
  obtain⟨hpl,hp⟩:=vals_in hi hk
  simp only[]at hpl hp
  have hst:∀y,stepV l g (px,p)=y→iterS (stepV l g) ([],i) (k+1)=y:=fun y h=>(iter_ok hk).trans h
  have hall:∀e,stepV l g (px,p)=.inl e→W=.inl e:=fun e h=>hvE.resolve_left id e (iter_err (hst _ h) n hkn)
  replace hst:False∨_:=.inr hst
  replace hall:False∨_:=.inr hall
  clear hk
  obtain⟨r,hr1,hr2⟩:∃r,n-k≤r+1∧r+1≤n-k:=⟨n-k-1,by omega,by omega⟩
  have hnk:n-k=r+1:=by omega
  have hr3:n-(k+1)=r:=by omega
  rw[hnk]
  clear hnk
  replace hr3:False∨_:=.inr hr3
  have hset1:=fun c=>zs_set px r c
  have hcsl:k<(uL px++List.replicate (r+1) (Value.int .u8 0)).length:=by rw[List.length_append,uL_len];simp;omega
  rw[hpl]at hset1
  generalize uL px++List.replicate (r+1) (Value.int .u8 0)=cs at hset1 hcsl ⊢
  replace hset1:False∨_:=.inr hset1
  replace hpl:px.length≤k∧k≤px.length:=by omega
  have hsx:=hs.push cs
  have hE:Ext H (H++[some cs]):=Ext.app _ _
  (try simp only[ctlB])
  repeat' ((first|refine xSNb ?_|refine xONb rfl ?_);(try simp only[ctlB]))
  refine aw_callE (xENb) (by simp(disch:=first|omega|(simp only[lenB];omega))only[evB,xBNb,Nat.reduceAdd,Nat.reduceBEq, *]) (xENb) (numP hsx hlo hp) ?_ ?_
  ·rintro r1 H2 ⟨a,j,hnum,rfl,rfl⟩
   obtain⟨ha1,ha2⟩:=numS_in hp hnum
   have hsV:stepV l g (px,p)=if a≤g then .inr (px++[scal a g],j) else .inl 3:=by unfold stepV;simp only[hnum]
   clear hnum
   (try simp only[ctlB])
   repeat' ((first|refine xSNb ?_|refine xONb rfl ?_);(try simp only[ctlB]))
   refine aw_callE (xENb) (by simp(disch:=first|omega|(simp only[lenB];omega))only[evB,xBNb,Nat.reduceAdd,Nat.reduceBEq, *]) (xENb) checkP ?_ ?_
   ·rintro r1 H2 ⟨rfl,hb⟩
    have hag:a≤g:=by simp at hb;omega
    clear hb
    rw[if_pos hag]at hsV
    replace hsV:False∨_:=.inr hsV
    have g5:=PS_topGet (v:=srcV bw ow sp l cap) (i:=j) (c:=cs) hbl
    have hset3:∀c',List.set (PS (H++[some cs]) b (srcV bw ow sp l cap) j) H.length (some c')=PS (H++[some c']) b (srcV bw ow sp l cap) j:=fun c'=>PS_top hbl
    have hloH:lo≤H.length:=by omega
    (try simp only[ctlB])
    repeat' ((first|refine xSNb ?_|refine xONb rfl ?_);(try simp only[ctlB]))
    refine xHNb ?_
    refine wpH_call0 (gryP hag hg1 hg2) ?_
    rintro r1 H2 ⟨rfl,rfl⟩
    (try simp only[ctlB])
    repeat' ((first|refine xSNb ?_|refine xONb rfl ?_);(try simp only[ctlB]))
    refine⟨px++[scal a g],j,hst.resolve_left id _ (hsV.resolve_left id),?_,exZNf (by first|rfl|(simp only[Int.natCast_add,Int.natCast_one];rfl)|simp only[Int.natCast_add,Int.natCast_one])⟩
    rw[hr3.resolve_left id,←hset1.resolve_left id]
   ·rintro r1 H2 ⟨rfl,hb,rfl⟩
    have hag:¬ a≤g:=by simp at hb;omega
    rw[if_neg hag]at hsV
    (repeat (first|rw[blockQ_p (by decide)]|simp only[seqQ_e,loopQ_e,midX_e]));refine bodyE_p ?_
    exact⟨_,3,j,hall.resolve_left id 3 hsV,hE,rfl,rfl⟩
  ·rintro r1 H2 ⟨e,j,hnum,rfl,rfl⟩
   (repeat (first|rw[blockQ_p (by decide)]|simp only[seqQ_e,loopQ_e,midX_e]));refine bodyE_p ?_
   exact⟨_,e,j,hall.resolve_left id e (by unfold stepV;simp only[hnum]),hE,rfl,rfl⟩
 ·rintro S H' ⟨px,p,hk,rfl,z,rfl⟩
  obtain⟨hpl,hp⟩:=vals_in hi hk
  simp only[]at hpl hp
  have hW:=hvR.resolve_left id px p hk
  clear hk
  rw[Nat.sub_self,List.replicate_zero,List.append_nil]
  have hE:Ext H (H++[some (uL px)]):=Ext.app _ _
  have hsx:=hs.push (uL px)
  have hgT:=PS_topGet (v:=srcV bw ow sp l cap) (i:=p) (c:=uL px) hbl
  have hslu:SlU (PS (H++[some (uL px)]) b (srcV bw ow sp l cap) p) (.slice (some ⟨H.length,0,none⟩) n n) px:=Sl.whole hgT hpl
  generalize uL px=cs at hE hsx hslu ⊢
  clear hgT
  replace hW:False∨_:=.inr hW
  (try simp only[ctlB])
  refine xHNb ?_
  refine wpH_call0 (endedP hsx) ?_
  rintro r1 H2 ⟨rfl,rfl⟩
  by_cases hpl2:p<l.length
  ·have hd:decide (l.length≤p)=false:=by simp;omega
   rw[hd]
   (try simp only[ctlB])
   refine aw_hv_if (t:=true) (xENb) (by simp(disch:=first|omega|(simp only[lenB];omega))only[evB,xBNb,Nat.reduceAdd,Nat.reduceBEq, *]) (by simp(disch:=first|omega|(simp only[lenB];omega))only[evB,xBNb,Nat.reduceAdd,Nat.reduceBEq, *];try rfl) (fun _=>⟨_,xENb,?_⟩) (fun h=>by cases h)
   refine wpH_call0 (sepaP hsx hpl2) ?_
   rintro r1 H2 ⟨rfl,rfl⟩
   (try simp only[ctlB])
   refine aw_callE (xENb) (by simp(disch:=first|omega|(simp only[lenB];omega))only[evB,xBNb,Nat.reduceAdd,Nat.reduceBEq, *]) (xENb) checkP ?_ ?_
   ·rintro r1 H2 ⟨rfl,hb⟩
    have hsp:¬ (p<l.length∧isSep (l.getD p 0)=false):=by rintro⟨_,h⟩;rw[h]at hb;simp at hb
    clear hb
    (try simp only[ctlB])
    repeat' ((first|refine xSNb ?_|refine xONb rfl ?_);(try simp only[ctlB]))
    refine bodyE_r ?_
    unfold cf43
    refine body_ret (xENb) ?_
    exact⟨_,px,p,by rw[hW.resolve_left id,if_neg hsp],hE,rfl,hslu⟩
   ·rintro r1 H2 ⟨rfl,hb,rfl⟩
    have hsp:isSep (l.getD p 0)=false:=by simpa using hb
    (repeat (first|rw[blockQ_p (by decide)]|simp only[seqQ_e,loopQ_e,midX_e]));refine bodyE_p ?_
    exact⟨_,9,p,by rw[hW.resolve_left id,if_pos ⟨hpl2,hsp⟩],hE,rfl,rfl⟩
  ·have hd:decide (l.length≤p)=true:=by simp;omega
   rw[hd]
   (try simp only[ctlB])
   refine aw_hv_if (t:=false) (xENb) (by simp(disch:=first|omega|(simp only[lenB];omega))only[evB,xBNb,Nat.reduceAdd,Nat.reduceBEq, *]) (by simp(disch:=first|omega|(simp only[lenB];omega))only[evB,xBNb,Nat.reduceAdd,Nat.reduceBEq, *];try rfl) (fun h=>by cases h) (fun _=>?_)
   (try simp only[ctlB])
   refine aw_callE (xENb) (by simp(disch:=first|omega|(simp only[lenB];omega))only[evB,xBNb,Nat.reduceAdd,Nat.reduceBEq, *]) (xENb) checkP ?_ ?_
   ·rintro r1 H2 ⟨rfl,hb⟩
    (try simp only[ctlB])
    repeat' ((first|refine xSNb ?_|refine xONb rfl ?_);(try simp only[ctlB]))
    refine bodyE_r ?_
    unfold cf43
    refine body_ret (xENb) ?_
    exact⟨_,px,p,by rw[hW.resolve_left id,if_neg (fun h=>hpl2 h.1)],hE,rfl,hslu⟩
   ·rintro r1 H2 ⟨rfl,hb,rfl⟩
    cases hb
end
end Go.Proofs.YtpbiaeiebhgmgaaDoor
