/- Fields in the reference: what its functions answer. Fields in the reference: the test, sums, products. Fields in the reference: powers, inverses, the generator. Reed-Solomon codes in the reference: roots, values, syndromes, reductions. Reed-Solomon codes in the reference: locators, products, the generator polynomial. Reed-Solomon codes in the reference: products, the generator polynomial. -/
import Derived.Test.YtmnlgdpdgjbfgaaGreatD10
import Derived.Test.YtmnlgdpdgjbfgaaGreatD12
import Derived.Test.YtmnlgdpdgjbfgaaGreatD13
set_option linter.unusedVariables false
set_option linter.unusedSimpArgs false
set_option linter.unusedSectionVars false
namespace Go.Proofs.YtmnlgdpdgjbfgaaGreat
open Go.Abs Go.RS
set_option linter.unusedSimpArgs false
set_option linter.unusedVariables false
set_option maxRecDepth 20000
theorem lenN_half{x:Nat}(h:x≠0):lenN x=lenN (x/2)+1:=by
 by_cases h1:x=1
 ·subst h1;rfl
 have:=lenN_div (k:=1) (x:=x) (by omega)
 simp at this;omega
theorem rdegree{lo:Nat}{H:Heap}{p:Int}(hp:p≤9223372036854775807):Ev cp lo 156 [.int .i64 p] H (fun v H'=>H'=H∧v=.int .i64 ((lenN p.toNat:Nat)-1)):=by
 by_cases hneg:p≤0
 ·refine st156 ?_;unfold bd156 cf156;simp only[kB,ctlB]
  repeat' ((first|refine xSGd ?_|refine xOGd rfl ?_);(try simp only[ctlB]))
  refine aw_loop' (fun m S H'=>H=H'∧S=[.int .i64 p,.int .i64 0,.int .i64 (-1)]) 0 ⟨rfl,rfl⟩ ?_
  rintro m S H' ⟨rfl,rfl⟩
  (try simp only[ctlB])
  refine xCGd (fun h=>?_) (fun h=>?_)
  ·simp at h;omega
  clear h
  (try simp only[ctlB])
  repeat' ((first|refine xSGd ?_|refine xOGd rfl ?_);(try simp only[ctlB]))
  refine xRGd ?_
  refine⟨rfl,?_⟩
  rw[show p.toNat=0 by omega,lenN_0];rfl
 obtain⟨n,rfl⟩:=Int.eq_ofNat_of_zero_le (show 0≤p by omega)
 have hn:=lenN_le (show n<2^63 by omega)
 rw[Int.toNat_natCast]
 refine st156 ?_;unfold bd156 cf156;simp only[kB,ctlB]
 repeat' ((first|refine xSGd ?_|refine xOGd rfl ?_);(try simp only[ctlB]))
 refine aw_loop' (fun m S H'=>H=H'∧∃x:Nat,x≤n∧m=x∧lenN x≤lenN n∧S=[.int .i64 x,.int .i64 0,.int .i64 ((lenN n:Nat)-1-(lenN x:Nat))]) n ?_ ?_
 ·exact⟨rfl,n,Nat.le_refl _,rfl,Nat.le_refl _,by rw[show((lenN n:Nat):Int)-1-(lenN n:Nat)=-1 by omega]⟩
 rintro m S H' ⟨rfl,x,hx,rfl,hlx,rfl⟩
 (try simp only[ctlB])
 refine xCGd (fun h=>?_) (fun h=>?_)
 ·have hm:m≠0:=by simp at h;omega
  clear h
  have h1:=lenN_half hm
  have e1:(m:Int).tdiv 2=((m/2:Nat):Int):=by rw[Int.tdiv_eq_ediv_of_nonneg (by omega)];rfl
  (try simp only[ctlB])
  repeat' ((first|refine xSGd ?_|refine xOGd rfl ?_);(try simp only[ctlB]))
  simp only[loopQ_n]
  exact⟨m/2,by omega,by trivial,m/2,by omega,rfl,by omega,by rw[show((lenN n:Nat):Int)-1-(lenN (m/2):Nat)=(lenN n:Nat)-1-(lenN (m/2)+1:Nat)+1 by omega]⟩
 ·have hm:m=0:=by simp at h;omega
  clear h
  subst hm
  rw[lenN_0]
  (try simp only[ctlB])
  repeat' ((first|refine xSGd ?_|refine xOGd rfl ?_);(try simp only[ctlB]))
  refine xRGd ?_
  exact⟨rfl,by simp[resultOf]⟩
theorem bit_div{x k:Nat}:x/2^k%2=1↔x.testBit k=true:=by
 rw[Nat.testBit_eq_decide_div_mod_eq];simp
theorem lt_of_bit{x k:Nat}(h:x<2^(k+1))(hb:¬ x/2^k%2=1):x<2^k:=by
 apply Decidable.byContradiction
 intro hc
 have h0:x≠0:=by have:0<2^k:=Nat.pow_pos (by omega);omega
 have hl:=log_of (by omega) h
 have:=log_bit h0
 rw[hl]at this
 exact hb (bit_div.2 this)
theorem rrest{lo:Nat}{H:Heap}{p q:Nat}(hp:p<2^62)(hq:q<2^62)(hq0:q≠0):Ev cp lo 113 [.int .i64 p,.int .i64 q] H (fun v H'=>H'=H∧v=.int .i64 (rm p q:Nat)):=by
 have hlq:=lenN_pos hq0
 have hlq2:=lenN_le hq
 have hlp2:=lenN_le hp
 have hlq':lenN q≤q.log2+1∧q.log2+1≤lenN q:=by omega
 have hpl:p<2^lenN p:=by
  by_cases h:p=0
  ·rw[h];exact Nat.pow_pos (by omega)
  ·rw[lenN_pos h];exact lt_log p
 clear hlq
 refine st113 ?_;unfold bd113 cf113;simp only[kB,ctlB]
 repeat' ((first|refine xSGd ?_|refine xOGd rfl ?_);(try simp only[ctlB]))
 refine xHGd ?_
 refine wpH_call0 (rdegree (p:=(q:Int)) (by omega)) ?_
 rintro v H1 ⟨rfl,rfl⟩
 rw[Int.toNat_natCast]
 (try simp only[ctlB])
 repeat' ((first|refine xSGd ?_|refine xOGd rfl ?_);(try simp only[ctlB]))
 refine xHGd ?_
 refine wpH_call0 (rdegree (p:=(p:Int)) (by omega)) ?_
 rintro v H2 ⟨rfl,rfl⟩
 rw[Int.toNat_natCast]
 (try simp only[ctlB])
 repeat' ((first|refine xSGd ?_|refine xOGd rfl ?_);(try simp only[ctlB]))
 refine aw_loop' (fun m S H'=>H2=H'∧∃(x j:Nat) (z5 z6:Value),x<2^62∧j≤62∧x<2^j∧m=j∧rm x q=rm p q∧S=[.int .i64 (x:Nat),.int .i64 (q:Nat),.int .i64 0,.int .i64 ((lenN q:Nat)-1),.int .i64 ((j:Nat)-1),z5,z6]) (lenN p) ?_ ?_
 ·exact⟨rfl,p,lenN p,_,_,hp,hlp2,hpl,rfl,rfl,rfl⟩
 rintro m S H' ⟨rfl,x,j,z5,z6,hx,hj,hxj,rfl,hrm,rfl⟩
 (try simp only[ctlB])
 refine xCGd (fun h=>?_) (fun h=>?_)
 ·have hc:lenN q≤m:=by simp at h;omega
  clear h
  obtain⟨k,rfl⟩:∃k,m=k+1:=⟨m-1,by omega⟩
  have e0:(((k+1:Nat):Int)-1)=(k:Int):=by omega
  have e1:(k:Int)-((lenN q:Nat)-1)=((k-q.log2:Nat):Int):=by omega
  have a1:=shr_nat x k .i64 (by show k≤64;omega)
  have a2:=and1_int (b:=x/2^k) (by
   have:=Nat.div_le_self x (2^k)
   omega)
  have hsl:q <<< (k-q.log2)<2^(q.log2+1+(k-q.log2)):=shl_lt (lt_log q)
  have hpw:2^(q.log2+1+(k-q.log2))≤2^62:=Nat.pow_le_pow_right (by omega) (by omega)
  have hsl2:=hsl
  rw[Nat.shiftLeft_eq]at hsl2
  have a3:=shl_int (a:=q) (k:=k-q.log2) (by omega) (by omega)
  have a4:=xor_int (a:=x) (b:=q <<< (k-q.log2)) (by omega) (by omega)
  (try simp only[ctlB])
  refine xCGd (fun h=>?_) (fun h=>?_)
  ·have hb:x/2^k%2=1:=by have h2:=of_decide_eq_true h;generalize x/2^k%2=z at *;omega
   clear h
   have hx0:x≠0:=by rintro rfl;simp at hb
   have hge:2^k≤x:=Nat.ge_two_pow_of_testBit (bit_div.1 hb)
   have hxl:=log_of hge hxj
   have hred:=red_lt hq0 hx0 (by omega)
   rw[hxl]at hred
   clear hxl
   (try simp only[ctlB])
   repeat' ((first|refine xSGd ?_|refine xOGd rfl ?_);(try simp only[ctlB]))
   simp only[loopQ_n]
   refine⟨k,by omega,by trivial,x ^^^ q <<< (k-q.log2),k,_,_,by
    have:2^k≤2^62:=Nat.pow_le_pow_right (by omega) (by omega)
    omega,by omega,hred,rfl,by rw[←hrm,←cl_pow,rm_add hq0],rfl⟩
  ·have hb:¬ x/2^k%2=1:=by have h2:=of_decide_eq_false h;generalize x/2^k%2=z at *;omega
   clear h
   (try simp only[ctlB])
   repeat' ((first|refine xSGd ?_|refine xOGd rfl ?_);(try simp only[ctlB]))
   simp only[loopQ_n]
   exact⟨k,by omega,by trivial,x,k,_,_,hx,by omega,lt_of_bit hxj hb,rfl,hrm,rfl⟩
 ·have hc:m<lenN q:=by simp at h;omega
  clear h
  have hmr:rm x q=x:=rm_self hq0 (Nat.lt_of_lt_of_le hxj (Nat.pow_le_pow_right (by omega) (by omega)))
  rw[hmr]at hrm
  (try simp only[ctlB])
  repeat' ((first|refine xSGd ?_|refine xOGd rfl ?_);(try simp only[ctlB]))
  refine xRGd ?_
  exact⟨rfl,by rw[←hrm];rfl⟩
theorem rprime{lo:Nat}{H:Heap}{n:Nat}(hn:n≤4096)(hn2:2≤n):Ev cp lo 158 [.int .i64 n] H (fun v H'=>H'=H∧∃b,v=.bool b∧(b=true↔PrN n)):=by
 refine st158 ?_;unfold bd158 cf158;simp only[kB,ctlB]
 repeat' ((first|refine xSGd ?_|refine xOGd rfl ?_);(try simp only[ctlB]))
 refine aw_loop' (fun m S H'=>∃(d:Nat),2≤d∧d≤n+2∧m=n+3-d∧H=H'∧(∀e,2≤e→e<d→e*e≤n→n%e≠0)∧S=[.int .i64 n,.bool false,.int .i64 d]) (n+1) ?_ ?_
 ·exact⟨2,by omega,by omega,by omega,rfl,fun e h1 h2=>by omega,rfl⟩
 rintro m S H' ⟨d,h2,hle,rfl,rfl,hno,rfl⟩
 have hm:=mul_bd (a:=(d:Int)) (b:=(d:Int)) (A:=5000) (B:=5000) (by omega) (by omega) (by omega) (by omega) (by omega)
 (try simp only[ctlB])
 refine xCGd (fun h=>?_) (fun h=>?_)
 ·have hc:d*d≤n:=by simp at h;omega
  clear h
  have hdn:d≤n:=Nat.le_trans (Nat.le_mul_of_pos_left d (by omega)) hc
  have hmod:(n:Int).tmod (d:Int)=((n%d:Nat):Int):=by rw[Int.tmod_eq_emod_of_nonneg (by omega)];rfl
  (try simp only[ctlB])
  refine xCGd (fun h=>?_) (fun h=>?_)
  ·have hz:n%d=0:=by simp at h;omega
   clear h hmod
   (try simp only[ctlB])
   repeat' ((first|refine xSGd ?_|refine xOGd rfl ?_);(try simp only[ctlB]))
   refine xRGd ?_
   exact⟨rfl,false,rfl,by simp;exact fun hp=>hp d h2 hc hz⟩
  ·have hz:n%d≠0:=by simp at h;omega
   clear h hmod
   (try simp only[ctlB])
   repeat' ((first|refine xSGd ?_|refine xOGd rfl ?_);(try simp only[ctlB]))
   simp only[loopQ_n]
   refine⟨n+3-(d+1),by omega,d+1,by omega,by omega,rfl,by trivial,fun e h1 h3=>?_,(by first|rfl|(simp only[Int.natCast_add,Int.natCast_one];rfl)|simp only[Int.natCast_add,Int.natCast_one])⟩
   by_cases e2:e=d
   ·subst e2;exact fun _=>hz
   ·exact hno e h1 (by omega)
 ·have hc:¬ d*d≤n:=by simp at h;omega
  clear h
  (try simp only[ctlB])
  repeat' ((first|refine xSGd ?_|refine xOGd rfl ?_);(try simp only[ctlB]))
  refine xRGd ?_
  refine⟨rfl,true,by simp[resultOf];omega,?_⟩
  simp only[true_iff]
  intro e h1 h3
  refine hno e h1 ?_ h3
  apply Decidable.byContradiction
  intro hge
  exact hc (Nat.le_trans (Nat.mul_le_mul (show d≤e by omega) (show d≤e by omega)) h3)
end Go.Proofs.YtmnlgdpdgjbfgaaGreat
namespace Go.Proofs.YtmnlgdpdgjbfgaaGreat
open Go.Abs Go.RS
set_option linter.unusedSimpArgs false
set_option linter.unusedVariables false
set_option maxRecDepth 20000
theorem rirr{lo:Nat}{H:Heap}{p:Int}{d:Nat}(hp:p<2^13)(hd1:1≤d)(hd:d≤12):Ev cp lo 157 [.int .i64 p,.int .i64 d] H (fun v H'=>H'=H∧∃b,v=.bool b∧(b=true↔0≤p∧lenN p.toNat=d+1∧Irr p.toNat)):=by
 refine st157 ?_;unfold bd157 cf157;simp only[kB,ctlB]
 repeat' ((first|refine xSGd ?_|refine xOGd rfl ?_);(try simp only[ctlB]))
 by_cases hneg:p<0
 ·refine aw_hv_if (xEGd) (by simp(disch:=first|omega|(simp only[lenB];omega))only[evB,xBGd,Nat.reduceAdd,Nat.reduceBEq, *]) (xEGd) (fun h=>by simp[hneg]at h) (fun h=>?_)
  clear h
  (try simp only[ctlB])
  refine xCGd (fun h=>?_) (fun h=>?_)
  ·clear h
   (try simp only[ctlB])
   repeat' ((first|refine xSGd ?_|refine xOGd rfl ?_);(try simp only[ctlB]))
   refine xRGd ?_
   exact⟨rfl,false,rfl,by simp;omega⟩
  ·simp at h
 obtain⟨n,rfl⟩:=Int.eq_ofNat_of_zero_le (show 0≤p by omega)
 rw[Int.toNat_natCast]
 have hn:=lenN_le (show n<2^63 by omega)
 refine aw_hv_if (xEGd) (by simp(disch:=first|omega|(simp only[lenB];omega))only[evB,xBGd,Nat.reduceAdd,Nat.reduceBEq, *]) (xEGd) (fun h=>⟨_,xEGd,?_⟩) (fun h=>by simp[hneg]at h)
 clear h
 refine wpH_call0 (rdegree (p:=(n:Int)) (by omega)) ?_
 rintro v H1 ⟨rfl,rfl⟩
 rw[Int.toNat_natCast]
 (try simp only[ctlB])
 refine xCGd (fun h=>?_) (fun h=>?_)
 ·have hc:lenN n≠d+1:=by simp at h;omega
  clear h
  (try simp only[ctlB])
  repeat' ((first|refine xSGd ?_|refine xOGd rfl ?_);(try simp only[ctlB]))
  refine xRGd ?_
  exact⟨rfl,false,rfl,by simp;intro h1;exact absurd h1 hc⟩
 have hc:lenN n=d+1:=by simp at h;omega
 clear h
 have hn0:n≠0:=by rintro rfl;rw[lenN_0]at hc;omega
 have hlog:n.log2=d:=by rw[lenN_pos hn0]at hc;omega
 have hn2:2≤n:=by
  have:=log_le hn0
  rw[hlog]at this
  have h2:2^1≤2^d:=Nat.pow_le_pow_right (by omega) hd1
  omega
 have hc':lenN n≤d+1∧d+1≤lenN n:=by omega
 have hlog':n.log2≤d∧d≤n.log2:=by omega
 clear hc hlog
 (try simp only[ctlB])
 repeat' ((first|refine xSGd ?_|refine xOGd rfl ?_);(try simp only[ctlB]))
 refine aw_loop' (fun m S H'=>∃(q:Nat) (z4 z5 z6 z7:Value),2≤q∧q≤n+1∧m=n+2-q∧H1=H'∧(∀t,2≤t→t<q→2*t.log2≤n.log2→¬ ∃m,n=cl t m)∧S=[.int .i64 (n:Nat),.int .i64 (d:Nat),.bool false,.int .i64 (q:Nat),z4,z5,z6,z7]) n ?_ ?_
 ·exact⟨2,_,_,_,_,by omega,by omega,by omega,rfl,fun t h1 h2=>by omega,rfl⟩
 rintro m S H' ⟨q,z4,z5,z6,z7,hq2,hqp,rfl,rfl,hno,rfl⟩
 have hq0:q≠0:=by omega
 have hlq:=lenN_pos hq0
 have hlq3:=lenN_le (show q<2^63 by omega)
 have hlq':lenN q≤q.log2+1∧q.log2+1≤lenN q:=by omega
 clear hlq
 (try simp only[ctlB])
 refine xHGd ?_
 refine wpH_call0 (rdegree (p:=(q:Int)) (by omega)) ?_
 rintro v H2 ⟨rfl,rfl⟩
 rw[Int.toNat_natCast]
 (try simp only[ctlB])
 refine xCGd (fun h=>?_) (fun h=>?_)
 ·have hc:2*q.log2≤n.log2:=by simp at h;omega
  clear h
  have hlt:q<n:=by
   have h1:=log_pos hq2
   have h3:=lt_log q
   have h4:2^(q.log2+1)≤2^n.log2:=Nat.pow_le_pow_right (by omega) (by omega)
   have h5:=log_le hn0
   omega
  (try simp only[ctlB])
  refine xHGd ?_
  refine wpH_call0 (rrest (p:=n) (q:=q) (by omega) (by omega) hq0) ?_
  rintro v H1 ⟨rfl,rfl⟩
  have hz:=rm_zero (p:=n) hq0
  (try simp only[ctlB])
  refine xCGd (fun h=>?_) (fun h=>?_)
  ·have hr:rm n q=0:=by simp at h;omega
   clear h
   (try simp only[ctlB])
   repeat' ((first|refine xSGd ?_|refine xOGd rfl ?_);(try simp only[ctlB]))
   refine xRGd ?_
   exact⟨rfl,false,rfl,by simp;exact fun _ hi=>hi q hq2 hc (hz.1 hr)⟩
  ·have hr:rm n q≠0:=by simp at h;omega
   clear h
   (try simp only[ctlB])
   repeat' ((first|refine xSGd ?_|refine xOGd rfl ?_);(try simp only[ctlB]))
   simp only[loopQ_n]
   refine⟨n+2-(q+1),by omega,q+1,_,_,_,_,by omega,by omega,rfl,by trivial,fun t h1 h3=>?_,(by first|rfl|(simp only[Int.natCast_add,Int.natCast_one];rfl)|simp only[Int.natCast_add,Int.natCast_one])⟩
   by_cases e:t=q
   ·subst e;exact fun _ hm=>hr (hz.2 hm)
   ·exact hno t h1 (by omega)
 ·have hc:n.log2<2*q.log2:=by simp at h;omega
  clear h
  (try simp only[ctlB])
  repeat' ((first|refine xSGd ?_|refine xOGd rfl ?_);(try simp only[ctlB]))
  refine xRGd ?_
  refine⟨rfl,true,rfl,?_⟩
  simp only[true_iff]
  refine⟨by omega,by omega,?_⟩
  intro t h1 h3
  refine hno t h1 ?_ h3
  apply Decidable.byContradiction
  intro hge
  have:=log_mono (show q≤t by omega) hq0
  omega
theorem len_pow{sz d:Nat}(h:lenN sz=d+1):2^d≤sz∧sz<2^(d+1):=by
 have h0:sz≠0:=by rintro rfl;rw[lenN_0]at h;omega
 rw[lenN_pos h0]at h
 have h1:=log_le h0
 have h2:=lt_log sz
 rw[show sz.log2=d by omega]at h1 h2
 exact⟨h1,h2⟩
theorem pow2_inj{a b:Nat}(h:2^a=2^b):a=b:=by
 rcases Nat.lt_trichotomy a b with h1|h1|h1
 ·have:=Nat.pow_lt_pow_right (a:=2) (by omega) h1;omega
 ·exact h1
 ·have:=Nat.pow_lt_pow_right (a:=2) (by omega) h1;omega
set_option maxHeartbeats 1000000 in
theorem rvalid{lo:Nat}{H:Heap}{ch sz po:Int}(hs:sz≤9223372036854775807):Ev cp lo 109 [fv ch sz po] H (fun v H'=>Ext H H'∧∃b,v=.bool b∧(b=true↔∃f,OkF ch sz po f)):=by
 unfold fv
 refine st109 ?_;unfold bd109 cf109;simp only[kB,ctlB]
 repeat' ((first|refine xSGd ?_|refine xOGd rfl ?_);(try simp only[ctlB]))
 refine xCGd (fun h=>?_) (fun h=>?_)
 ·have hch:ch=2:=by simpa using h
  clear h
  subst hch
  (try simp only[ctlB])
  refine xHGd ?_
  refine wpH_call0 (rdegree (p:=sz) hs) ?_
  rintro v H1 ⟨rfl,rfl⟩
  by_cases hd:2≤lenN sz.toNat∧lenN sz.toNat≤13
  ·obtain⟨d,hde⟩:∃d,lenN sz.toNat=d+1:=⟨lenN sz.toNat-1,by omega⟩
   rw[hde]at hd ⊢
   have e0:(((d+1:Nat):Int)-1)=(d:Int):=by omega
   rw[e0]
   have a1:=shl_int (a:=1) (k:=d) (by
    have:2^d≤2^12:=Nat.pow_le_pow_right (by omega) (by omega)
    omega) (by omega)
   have a2:=shl_int (a:=1) (k:=d+1) (by
    have:2^(d+1)≤2^13:=Nat.pow_le_pow_right (by omega) (by omega)
    omega) (by omega)
   rw[Nat.shiftLeft_eq,Nat.one_mul]at a1 a2
   have a1:IntKind.i64.wrap (1*2^min d IntKind.i64.bits)=((2^d:Nat):Int):=a1
   have a2:IntKind.i64.wrap (1*2^min (d+1) IntKind.i64.bits)=((2^(d+1):Nat):Int):=a2
   have hp13:2^(d+1)≤2^13:=Nat.pow_le_pow_right (by omega) (by omega)
   have e1:((d:Int)+1)=((d+1:Nat):Int):=by omega
   have n1:(1:Int)≤d:=by omega
   have n2:(d:Int)≤12:=by omega
   generalize hQ:2^d=Q at *
   generalize hQ2:2^(d+1)=Q2 at *
   (try simp only[ctlB])
   repeat' ((first|refine xSGd ?_|refine xOGd rfl ?_);(try simp only[ctlB]))
   refine aw_hv_if (xEGd) (by simp(disch:=first|omega|(simp only[lenB];omega))only[evB,xBGd,Nat.reduceAdd,Nat.reduceBEq, *]) (xEGd) (fun h=>?_) (fun h=>?_)
   ·have hcc:sz=(Q:Int)∧po<Q2:=by simp at h;omega
    refine⟨_,xEGd,?_⟩
    refine wpH_call0 (rirr (p:=po) (d:=d) (by omega) (by omega) (by omega)) ?_
    rintro v H3 ⟨rfl,b,rfl,hbb⟩
    (try simp only[ctlB])
    repeat' ((first|refine xSGd ?_|refine xOGd rfl ?_);(try simp only[ctlB]))
    refine xRGd ?_
    refine⟨Ext.app _ _,b,by simp[resultOf],?_⟩
    rw[hbb]
    constructor
    ·rintro⟨hp0,hpl,hi⟩
     have hpn0:po.toNat≠0:=by intro e;rw[e,lenN_0]at hpl;omega
     have hplog:po.toNat.log2=d:=by rw[lenN_pos hpn0]at hpl;omega
     have:=len_pow hpl
     have h2d:2^1≤2^d:=Nat.pow_le_pow_right (by omega) (by omega)
     refine⟨⟨Q,po.toNat⟩,.inr ⟨hpn0,by simp;omega,by simp;omega,by simp;rw[hplog,hQ],hi⟩,by simp;omega,by simp;omega,?_⟩
     show(2:Int)=((if po.toNat=0 then Q else 2:Nat):Int)
     rw[if_neg hpn0];rfl
    ·rintro⟨f,hf,h1,h2,h3⟩
     have hf2:=hf
     rcases hf with ⟨e0,e1,_⟩|⟨e0,e1,e2,e3,hi⟩
     ·unfold FD.ch at h3;rw[if_pos e0]at h3;omega
     ·have hpp:po.toNat=f.poly:=by omega
      have hlog:f.poly.log2=d:=by
       have:2^f.poly.log2=2^d:=by rw[←e3,hQ];omega
       exact pow2_inj this
      rw[hpp]
      exact⟨by omega,by rw[lenN_pos e0,hlog],hi⟩
   ·have hcc:¬ (sz=(Q:Int)∧po<Q2):=by
     rintro⟨h1,h2⟩
     simp[h1,h2,n1,n2]at h
    (try simp only[ctlB])
    repeat' ((first|refine xSGd ?_|refine xOGd rfl ?_);(try simp only[ctlB]))
    refine xRGd ?_
    refine⟨Ext.app _ _,false,by simp[resultOf],?_⟩
    simp only[Bool.false_eq_true,false_iff]
    rintro⟨f,hf,h1,h2,h3⟩
    apply hcc
    have hf2:=hf
    rcases hf with ⟨e0,e1,_⟩|⟨e0,e1,e2,e3,hi⟩
    ·unfold FD.ch at h3;rw[if_pos e0]at h3;omega
    ·have hsz:sz.toNat=2^f.poly.log2:=by omega
     have hlp:=len_pow hde
     rw[hsz]at hlp
     have k1:d≤f.poly.log2:=by
      have:2^d<2^(f.poly.log2+1):=Nat.lt_of_le_of_lt hlp.1 (Nat.pow_lt_pow_right (by omega) (by omega))
      have:=(Nat.pow_lt_pow_iff_right (by omega:1<2)).1 this
      omega
     have k2:f.poly.log2<d+1:=(Nat.pow_lt_pow_iff_right (by omega:1<2)).1 hlp.2
     have hl:f.poly.log2=d:=by omega
     rw[hl,hQ]at e3
     have:=lt_log f.poly
     rw[hl,hQ2]at this
     omega
  ·have hl2:=lenN_le (show sz.toNat<2^63 by omega)
   have hnf:¬ ∃f,OkF 2 sz po f:=by
    rintro⟨f,hf,h1,h2,h3⟩
    rcases hf with ⟨e0,e1,_⟩|⟨e0,e1,e2,e3,hi⟩
    ·unfold FD.ch at h3;rw[if_pos e0]at h3;omega
    ·apply hd
     have hsz:sz.toNat=2^f.poly.log2:=by omega
     have hne:2^f.poly.log2≠0:=Nat.pos_iff_ne_zero.1 (Nat.pow_pos (by omega))
     rw[hsz,lenN_pos hne,log_of (Nat.le_refl _) (Nat.pow_lt_pow_right (by omega) (by omega))]
     have:=log_pos e1
     omega
   generalize hL:lenN sz.toNat=L at *
   have hT:(decide (1≤(L:Int)-1)&&decide ((L:Int)-1≤12))=false:=by
    rw[Bool.eq_false_iff]
    intro h
    simp at h
    omega
   have e1:¬ (1≤(L:Int)-1∧(L:Int)-1≤12):=by omega
   (try simp only[ctlB])
   repeat' ((first|refine xSGd ?_|refine xOGd rfl ?_);(try simp only[ctlB]))
   refine aw_hv_if (xEGd) (by simp(disch:=first|omega|(simp only[lenB];omega))only[evB,xBGd,Nat.reduceAdd,Nat.reduceBEq, *]) (xEGd) (fun h=>by cases h) (fun h=>?_)
   clear h
   (try simp only[ctlB])
   repeat' ((first|refine xSGd ?_|refine xOGd rfl ?_);(try simp only[ctlB]))
   refine xRGd ?_
   exact⟨Ext.app _ _,false,rfl,by simpa using hnf⟩
 ·have hch:¬ ch=2:=by simpa using h
  clear h
  (try simp only[ctlB])
  refine aw_hv_if (xEGd) (by simp(disch:=first|omega|(simp only[lenB];omega))only[evB,xBGd,Nat.reduceAdd,Nat.reduceBEq, *]) (xEGd) (fun h=>?_) (fun h=>?_)
  ·have hc:ch=sz∧po=0∧3≤sz∧sz≤4096:=by simp at h;omega
   obtain⟨n,hn⟩:∃n:Nat,(n:Int)=sz:=⟨sz.toNat,by omega⟩
   refine⟨_,xEGd,?_⟩
   refine wpH_call0 (by rw[←hn];exact rprime (n:=n) (by omega) (by omega)) ?_
   rintro v H1 ⟨rfl,b,rfl,hb⟩
   (try simp only[ctlB])
   repeat' ((first|refine xSGd ?_|refine xOGd rfl ?_);(try simp only[ctlB]))
   refine xRGd ?_
   refine⟨Ext.app _ _,b,by simp[resultOf],?_⟩
   rw[hb,prN_iff (by omega)]
   constructor
   ·intro hp
    exact⟨⟨n,0⟩,.inl ⟨rfl,by simp;omega,by simp;omega,hp⟩,by simp;omega,by simp;omega,by simp[FD.ch];omega⟩
   ·rintro⟨f,hf,h1,h2,h3⟩
    rcases hf with ⟨e0,e1,e2,e3⟩|⟨e0,e1,_⟩
    ·have:f.q=n:=by omega
     rw[←this];exact e3
    ·exfalso;omega
  ·have hc:¬ (ch=sz∧po=0∧3≤sz∧sz≤4096):=by
    rintro⟨h1,h2,h3,h4⟩
    simp[h1,h2,h3,h4]at h
   (try simp only[ctlB])
   repeat' ((first|refine xSGd ?_|refine xOGd rfl ?_);(try simp only[ctlB]))
   refine xRGd ?_
   refine⟨Ext.app _ _,false,by simp[resultOf],?_⟩
   simp only[Bool.false_eq_true,false_iff]
   rintro⟨f,hf,h1,h2,h3⟩
   rcases hf with ⟨e0,e1,e2,e3⟩|⟨e0,e1,_⟩
   ·apply hc
    unfold FD.ch at h3;rw[if_pos e0]at h3;omega
   ·unfold FD.ch at h3;rw[if_neg e0]at h3;omega
section
variable {f:FD}[OkC f]
theorem rplus{lo:Nat}{H:Heap}(x y:El f):Ev cp lo 67 [fvf f,.int .i64 (x.val:Nat),.int .i64 (y.val:Nat)] H (fun v H'=>Ext H H'∧v=.int .i64 ((x+y).val:Nat)):=by
 have h2:=qle (f:=f)
 have hx:=x.lt
 have hy:=y.lt
 have hc:=ch_two (OkC.ok (f:=f))
 rw[val_add]
 have e1:=xor_int (a:=x.val) (b:=y.val) (by omega) (by omega)
 have e2:((x.val:Int)+(y.val:Int)).tmod (f.q:Int)=(((x.val+y.val)%f.q:Nat):Int):=by
  rw[Int.tmod_eq_emod_of_nonneg (by omega)];rfl
 unfold fvf fv
 refine st67 ?_;unfold bd67 cf67;simp only[kB,ctlB]
 repeat' ((first|refine xSGd ?_|refine xOGd rfl ?_);(try simp only[ctlB]))
 refine xCGd (fun h=>?_) (fun h=>?_)
 ·have hp:f.poly≠0:=hc.1 (by simp at h;omega)
  clear h
  (try simp only[ctlB])
  repeat' ((first|refine xSGd ?_|refine xOGd rfl ?_);(try simp only[ctlB]))
  refine xRGd ?_
  refine⟨Ext.app _ _,?_⟩
  unfold fadd
  rw[if_neg hp];rfl
 ·have hp:f.poly=0:=by
   apply Decidable.byContradiction
   intro h0
   have:=hc.2 h0
   simp at h;omega
  clear h
  (try simp only[ctlB])
  repeat' ((first|refine xSGd ?_|refine xOGd rfl ?_);(try simp only[ctlB]))
  refine xRGd ?_
  refine⟨Ext.app _ _,?_⟩
  unfold fadd
  rw[if_pos hp];rfl
theorem rminus{lo:Nat}{H:Heap}(x y:El f):Ev cp lo 68 [fvf f,.int .i64 (x.val:Nat),.int .i64 (y.val:Nat)] H (fun v H'=>Ext H H'∧v=.int .i64 ((x-y).val:Nat)):=by
 have h2:=qle (f:=f)
 have hx:=x.lt
 have hy:=y.lt
 have hs:(x-y).val=fsub f x.val y.val:=(fsub_eq (OkC.ok (f:=f)) x.lt y.lt).symm
 have hc:=ch_two (OkC.ok (f:=f))
 rw[hs]
 clear hs
 have e1:=xor_int (a:=x.val) (b:=y.val) (by omega) (by omega)
 have e2:((x.val:Int)+f.q-y.val).tmod (f.q:Int)=(((x.val+f.q-y.val)%f.q:Nat):Int):=by
  rw[Int.tmod_eq_emod_of_nonneg (by omega),show(x.val:Int)+f.q-y.val=((x.val+f.q-y.val:Nat):Int) by omega];rfl
 unfold fvf fv
 refine st68 ?_;unfold bd68 cf68;simp only[kB,ctlB]
 repeat' ((first|refine xSGd ?_|refine xOGd rfl ?_);(try simp only[ctlB]))
 refine xCGd (fun h=>?_) (fun h=>?_)
 ·have hp:f.poly≠0:=hc.1 (by simp at h;omega)
  clear h
  (try simp only[ctlB])
  repeat' ((first|refine xSGd ?_|refine xOGd rfl ?_);(try simp only[ctlB]))
  refine xRGd ?_
  refine⟨Ext.app _ _,?_⟩
  unfold fsub
  rw[if_neg hp];rfl
 ·have hp:f.poly=0:=by
   apply Decidable.byContradiction
   intro h0
   have:=hc.2 h0
   simp at h;omega
  clear h
  (try simp only[ctlB])
  repeat' ((first|refine xSGd ?_|refine xOGd rfl ?_);(try simp only[ctlB]))
  refine xRGd ?_
  refine⟨Ext.app _ _,?_⟩
  unfold fsub
  rw[if_pos hp];rfl
theorem mod_pow_xor(b k:Nat):b%2^(k+1)=b%2^k ^^^ (if b/2^k%2=1 then 2^k else 0):=by
 apply Nat.eq_of_testBit_eq
 intro i
 rw[Nat.testBit_xor,Nat.testBit_mod_two_pow,Nat.testBit_mod_two_pow]
 by_cases hb:b/2^k%2=1
 ·rw[if_pos hb,Nat.testBit_two_pow]
  have hbk:=bit_div.1 hb
  by_cases h:i=k
  ·subst h;simp[hbk]
  ·have h1:decide (i<k+1)=decide (i<k):=by rw[Bool.eq_iff_iff];simp;omega
   have h2:decide (k=i)=false:=by simp;omega
   rw[h1,h2];simp
 ·rw[if_neg hb,Nat.zero_testBit]
  have hbk:b.testBit k=false:=by rw[Bool.eq_false_iff];exact fun h=>hb (bit_div.2 h)
  by_cases h:i=k
  ·subst h;simp[hbk]
  ·have h1:decide (i<k+1)=decide (i<k):=by rw[Bool.eq_iff_iff];simp;omega
   rw[h1];simp
theorem cl_bound{a b:Nat}(ha:a<4096)(hb:b<4096):cl a b<2^30:=by
 have h:=cl_lt (a:=a) (b:=b)
 have key:∀n:Nat,n<4096→n.log2≤11:=by
  intro n hn
  by_cases h0:n=0
  ·rw[h0];decide
  ·have:=Nat.lt_of_le_of_lt (log_le h0) (show n<2^12 by omega)
   have:=(Nat.pow_lt_pow_iff_right (by omega:1<2)).1 this
   omega
 have h1:=key a ha
 have h2:=key b hb
 exact Nat.lt_of_lt_of_le h (Nat.pow_le_pow_right (by omega) (by omega))
theorem rtimes{lo:Nat}{H:Heap}(x y:El f):Ev cp lo 69 [fvf f,.int .i64 (x.val:Nat),.int .i64 (y.val:Nat)] H (fun v H'=>Ext H H'∧v=.int .i64 ((x*y).val:Nat)):=by
 have h2:=qle (f:=f)
 have hx:=x.lt
 have hy:=y.lt
 have hc:=ch_two (OkC.ok (f:=f))
 rw[val_mul]
 generalize x.val=a at *
 generalize y.val=b at *
 unfold fvf fv
 refine st69 ?_;unfold bd69 cf69;simp only[kB,ctlB]
 repeat' ((first|refine xSGd ?_|refine xOGd rfl ?_);(try simp only[ctlB]))
 refine xCGd (fun h=>?_) (fun h=>?_)
 ·have hp:f.poly=0:=by
   apply Decidable.byContradiction
   intro h0
   have:=hc.2 h0
   simp at h;omega
  clear h
  have hm:=mul_bd (a:=(a:Int)) (b:=(b:Int)) (A:=4096) (B:=4096) (by omega) (by omega) (by omega) (by omega) (by omega)
  have hmod:((a:Int)*(b:Int)).tmod (f.q:Int)=((a*b%f.q:Nat):Int):=by
   rw[←Int.natCast_mul,Int.tmod_eq_emod_of_nonneg (by omega)];rfl
  (try simp only[ctlB])
  repeat' ((first|refine xSGd ?_|refine xOGd rfl ?_);(try simp only[ctlB]))
  refine xRGd ?_
  refine⟨Ext.app _ _,?_⟩
  unfold fmul
  rw[if_pos hp];rfl
 have hp:f.poly≠0:=hc.1 (by simp at h;omega)
 clear h
 have hfm:fmul f a b=rm (cl a b) f.poly:=by unfold fmul;rw[if_neg hp]
 have hpb:=poly_bd (OkC.ok (f:=f))
 have hpb2:f.poly<2^13:=by
  rcases(OkC.ok (f:=f))with ⟨e,_⟩|⟨_,hP,hP12,hq,hi⟩
  ·exact absurd e hp
  ·exact Nat.lt_of_lt_of_le (lt_log f.poly) (Nat.pow_le_pow_right (by omega) (by omega))
 rw[hfm]
 clear hfm
 generalize hG:H++_=G at *
 have g0:G.get H.length=some [Value.int .i64 (FD.ch f:Nat),Value.int .i64 (f.q:Nat),Value.int .i64 (f.poly:Nat)]:=by rw[←hG];exact get_app0
 have hxG:Ext H G:=by rw[←hG];exact Ext.app _ _
 clear hG
 (try simp only[ctlB])
 repeat' ((first|refine xSGd ?_|refine xOGd rfl ?_);(try simp only[ctlB]))
 refine aw_loop' (fun m S H'=>G=H'∧∃(k:Nat) (z0 z7:Value),k≤12∧m=13-k∧S=[z0,.int .i64 (a:Nat),.int .i64 (b:Nat),.pointer (some ⟨H.length,0,none⟩),.int .i64 0,.int .i64 (cl a (b%2^k):Nat),.int .i64 (k:Nat),z7]) 13 ?_ ?_
 ·exact⟨rfl,0,_,_,by omega,by omega,by rw[show b%2^0=0 by omega,cl_zero];rfl⟩
 rintro m S H' ⟨rfl,k,z0,z7,hk,rfl,rfl⟩
 have a1:=shr_nat b k .i64 (by show k≤64;omega)
 have hdl:=Nat.div_le_self b (2^k)
 have a2:=and1_int (b:=b/2^k) (by omega)
 have hak:a*2^k<2^24:=by
  have h1:2^k≤2^12:=Nat.pow_le_pow_right (by omega) hk
  have h3:a*2^k≤4095*2^12:=Nat.mul_le_mul (by omega) h1
  omega
 have a3:=shl_int (a:=a) (k:=k) (by omega) (by omega)
 have hmodle:=Nat.mod_le b (2^k)
 have hclb:=cl_bound (a:=a) (b:=b%2^k) (by omega) (by omega)
 have a4:=xor_int (a:=cl a (b%2^k)) (b:=a <<< k) (by omega) (by rw[Nat.shiftLeft_eq];omega)
 have hmx:=mod_pow_xor b k
 (try simp only[ctlB])
 refine xCGd (fun h=>?_) (fun h=>?_)
 ·have hpos:b/2^k≠0:=by have h3:=of_decide_eq_true h;generalize b/2^k=z at *;omega
  clear h
  have hk11:k≤11:=by
   apply Decidable.byContradiction
   intro hcc
   apply hpos
   have:2^12≤2^k:=Nat.pow_le_pow_right (by omega) (by omega)
   exact Nat.div_eq_of_lt (by omega)
  (try simp only[ctlB])
  refine xCGd (fun h=>?_) (fun h=>?_)
  ·have hb:b/2^k%2=1:=by have h3:=of_decide_eq_true h;generalize b/2^k%2=z at *;omega
   clear h
   rw[if_pos hb]at hmx
   (try simp only[ctlB])
   repeat' ((first|refine xSGd ?_|refine xOGd rfl ?_);(try simp only[ctlB]))
   simp only[loopQ_n]
   exact⟨13-(k+1),by omega,by trivial,k+1,_,_,by omega,rfl,by rw[hmx,cl_xor,cl_pow];first|rfl|(simp only[Int.natCast_add,Int.natCast_one];rfl)⟩
  ·have hb:¬ b/2^k%2=1:=by have h3:=of_decide_eq_false h;generalize b/2^k%2=z at *;omega
   clear h
   rw[if_neg hb,Nat.xor_zero]at hmx
   (try simp only[ctlB])
   repeat' ((first|refine xSGd ?_|refine xOGd rfl ?_);(try simp only[ctlB]))
   simp only[loopQ_n]
   exact⟨13-(k+1),by omega,by trivial,k+1,_,_,by omega,rfl,by rw[hmx];first|rfl|(simp only[Int.natCast_add,Int.natCast_one];rfl)⟩
 ·have hz:b/2^k=0:=by have h3:=of_decide_eq_false h;generalize b/2^k=z at *;omega
  clear h
  have hbm:b%2^k=b:=by
   apply Nat.mod_eq_of_lt
   rcases Nat.div_eq_zero_iff.1 hz with h3|h3
   ·have:0<2^k:=Nat.pow_pos (by omega);omega
   ·exact h3
  rw[hbm]at hclb ⊢
  clear a1 a2 a3 a4 hmx
  (try simp only[ctlB])
  refine xHGd ?_
  refine wpH_call0 (rrest (p:=cl a b) (q:=f.poly) (by omega) (by omega) hp) ?_
  rintro v H1 ⟨rfl,rfl⟩
  (try simp only[ctlB])
  repeat' ((first|refine xSGd ?_|refine xOGd rfl ?_);(try simp only[ctlB]))
  refine xRGd ?_
  exact⟨hxG,rfl⟩
end
end Go.Proofs.YtmnlgdpdgjbfgaaGreat
namespace Go.Proofs.YtmnlgdpdgjbfgaaGreat
open Go.Abs Go.RS
set_option linter.unusedSimpArgs false
set_option linter.unusedVariables false
set_option maxRecDepth 20000
theorem ris{lo:Nat}{H:Heap}{ch sz po x:Int}:Ev cp lo 110 [fv ch sz po,.int .i64 x] H (fun v H'=>Ext H H'∧v=.bool (decide (0≤x)&&decide (x<sz))):=by
 unfold fv
 refine st110 ?_;unfold bd110 cf110;simp only[kB,ctlB]
 repeat' ((first|refine xSGd ?_|refine xOGd rfl ?_);(try simp only[ctlB]))
 refine xRGd ?_
 exact⟨Ext.app _ _,rfl⟩
section
variable {f:FD}[OkC f]
theorem pw_two(a:El f)(n:Nat):pw (a*a) n=pw a (2*n):=by
 rw[pw_mul]
 congr 1
 rw[pw_succ,pw_one]
def fvC(f:FD):List Value:=[.int .i64 (FD.ch f:Nat),.int .i64 (f.q:Nat),.int .i64 (f.poly:Nat)]
theorem rpower{lo:Nat}{H:Heap}(a:El f)(n:Nat)(hn:n≤1000000000000):Ev cp lo 160 [fvf f,.int .i64 (a.val:Nat),.int .i64 n] H (fun v H'=>Ext H H'∧v=.int .i64 ((pw a n).val:Nat)):=by
 unfold fvf fv
 refine st160 ?_;unfold bd160 cf160;simp only[kB,ctlB]
 repeat' ((first|refine xSGd ?_|refine xOGd rfl ?_);(try simp only[ctlB]))
 generalize hG:H++_=G at *
 have g0:G.get H.length=some (fvC f):=by rw[←hG];exact get_app0
 have hxG:Ext H G:=by rw[←hG];exact Ext.app _ _
 clear hG
 refine aw_loop' (fun m S H'=>Ext H H'∧H'.get H.length=some (fvC f)∧∃(x p:El f) (z0 z6 z7:Value),m≤n∧p*pw x m=pw a n∧S=[z0,.int .i64 (x.val:Nat),.int .i64 (m:Nat),.pointer (some ⟨H.length,0,none⟩),.int .i64 0,.int .i64 (p.val:Nat),z6,z7]) n ?_ ?_
 ·exact⟨hxG,g0,a,1,_,_,_,Nat.le_refl _,one_mul _,rfl⟩
 clear g0 hxG
 rintro m S H1 ⟨hx1,g0,x,p,z0,z6,z7,hm,hinv,rfl⟩
 unfold fvC at g0
 (try simp only[ctlB])
 refine xCGd (fun h=>?_) (fun h=>?_)
 ·have hm0:0<m:=by simpa using h
  clear h
  have e1:(m:Int).tmod 2=((m%2:Nat):Int):=by rw[Int.tmod_eq_emod_of_nonneg (by omega)];rfl
  have e2:(m:Int).tdiv 2=((m/2:Nat):Int):=by rw[Int.tdiv_eq_ediv_of_nonneg (by omega)];rfl
  (try simp only[ctlB])
  refine aw_mid (fun S' H'=>Ext H H'∧H'.get H.length=some (fvC f)∧∃(z0 z6 z7:Value),S'=[z0,.int .i64 (x.val:Nat),.int .i64 (m:Nat),.pointer (some ⟨H.length,0,none⟩),.int .i64 0,.int .i64 ((if m%2=1 then p*x else p).val:Nat),z6,z7]) ?_ ?_
  ·refine xCGd (fun h=>?_) (fun h=>?_)
   ·have ho:m%2=1:=by simp at h;omega
    clear h
    (try simp only[ctlB])
    refine xHGd ?_
    refine wpH_call0 (rtimes p x) ?_
    rintro v H2 ⟨hx2,rfl⟩
    have g0:=hx2.get g0
    (try simp only[ctlB])
    repeat' ((first|refine xSGd ?_|refine xOGd rfl ?_);(try simp only[ctlB]))
    exact⟨hx1.trans hx2,g0,_,_,_,by rw[if_pos ho]⟩
   ·have ho:¬ m%2=1:=by simp at h;omega
    clear h
    (try simp only[ctlB])
    exact⟨hx1,g0,_,_,_,by rw[if_neg ho]⟩
  clear g0 hx1
  rintro S' H2 ⟨hx2,g0,z0,z6,z7,rfl⟩
  unfold fvC at g0
  generalize hp':(if m%2=1 then p*x else p)=p' at *
  (try simp only[ctlB])
  refine xHGd ?_
  refine wpH_call0 (rtimes x x) ?_
  rintro v H3 ⟨hx3,rfl⟩
  have g0:=hx3.get g0
  (try simp only[ctlB])
  repeat' ((first|refine xSGd ?_|refine xOGd rfl ?_);(try simp only[ctlB]))
  simp only[loopQ_n]
  refine⟨m/2,by omega,hx2.trans hx3,g0,x*x,p',_,_,_,by omega,?_,rfl⟩
  rw[←hinv,pw_two,←hp']
  by_cases ho:m%2=1
  ·rw[if_pos ho,mul_assoc]
   congr 1
   obtain⟨k,rfl⟩:∃k,m=2*k+1:=⟨m/2,by omega⟩
   rw[show(2*k+1)/2=k by omega,pw_succ,mul_comm]
  ·rw[if_neg ho,show 2*(m/2)=m by omega]
 ·have hm0:m=0:=by simp at h;omega
  clear h
  rw[hm0,pw_zero,mul_one]at hinv
  (try simp only[ctlB])
  repeat' ((first|refine xSGd ?_|refine xOGd rfl ?_);(try simp only[ctlB]))
  refine xRGd ?_
  exact⟨hx1,by rw[←hinv];rfl⟩
theorem rorder{lo:Nat}{H:Heap}{a:El f}{n:Nat}(hn:Ord a n)(hn2:n<f.q):Ev cp lo 191 [fvf f,.int .i64 (a.val:Nat)] H (fun v H'=>Ext H H'∧v=.int .i64 n):=by
 have h2:=qle (f:=f)
 unfold fvf fv
 refine st191 ?_;unfold bd191 cf191;simp only[kB,ctlB]
 repeat' ((first|refine xSGd ?_|refine xOGd rfl ?_);(try simp only[ctlB]))
 generalize hG:H++_=G at *
 have g0:G.get H.length=some (fvC f):=by rw[←hG];exact get_app0
 have hxG:Ext H G:=by rw[←hG];exact Ext.app _ _
 clear hG
 refine aw_loop' (fun m S H'=>∃(k:Nat) (z0 z6:Value),1≤k∧k≤n∧m=n-k∧Ext H H'∧H'.get H.length=some (fvC f)∧S=[z0,.int .i64 (a.val:Nat),.pointer (some ⟨H.length,0,none⟩),.int .i64 0,.int .i64 (k:Nat),.int .i64 ((pw a k).val:Nat),z6]) (n-1) ?_ ?_
 ·exact⟨1,_,_,by omega,hn.1,rfl,hxG,g0,by rw[pw_one];rfl⟩
 clear g0 hxG
 rintro m S H1 ⟨k,z0,z6,hk1,hkn,rfl,hx1,g0,rfl⟩
 unfold fvC at g0
 (try simp only[ctlB])
 refine xCGd (fun h=>?_) (fun h=>?_)
 ·have hne:(pw a k).val≠1:=by simp at h;omega
  clear h
  have hlt:k<n:=by
   apply Decidable.byContradiction
   intro hc
   have:k=n:=by omega
   rw[this,hn.2.1]at hne
   exact hne rfl
  (try simp only[ctlB])
  refine xHGd ?_
  refine wpH_call0 (rtimes (pw a k) a) ?_
  rintro v H2 ⟨hx2,rfl⟩
  have g0:=hx2.get g0
  have hx2:=hx1.trans hx2
  (try simp only[ctlB])
  repeat' ((first|refine xSGd ?_|refine xOGd rfl ?_);(try simp only[ctlB]))
  simp only[loopQ_n]
  exact⟨n-(k+1),by omega,k+1,_,_,by omega,by omega,rfl,hx2,g0,(by first|rfl|(simp only[Int.natCast_add,Int.natCast_one];rfl)|simp only[Int.natCast_add,Int.natCast_one])⟩
 ·have hkk:k=n:=by
   apply Decidable.byContradiction
   intro hc
   apply hn.2.2 k (by omega) (by omega)
   apply El.ext
   rw[val_1]
   simp at h;omega
  clear h
  (try simp only[ctlB])
  repeat' ((first|refine xSGd ?_|refine xOGd rfl ?_);(try simp only[ctlB]))
  refine xRGd ?_
  exact⟨hx1,by rw[←hkk];rfl⟩
theorem rprimitive{lo:Nat}{H:Heap}{g:El f}(hg:Gn (OkC.ok (f:=f)) g):Ev cp lo 159 [fvf f] H (fun v H'=>Ext H H'∧v=.int .i64 (g.val:Nat)):=by
 have h2:=qle (f:=f)
 have hgl:=g.lt
 unfold fvf fv
 refine st159 ?_;unfold bd159 cf159;simp only[kB,ctlB]
 repeat' ((first|refine xSGd ?_|refine xOGd rfl ?_);(try simp only[ctlB]))
 generalize hG:H++_=G at *
 have g0:G.get H.length=some (fvC f):=by rw[←hG];exact get_app0
 have hxG:Ext H G:=by rw[←hG];exact Ext.app _ _
 clear hG
 have hgp:=hg.pos
 refine aw_loop' (fun m S H'=>∃(k:Nat) (z0 z4 z5:Value),1≤k∧k≤g.val∧m=g.val-k∧Ext H H'∧H'.get H.length=some (fvC f)∧S=[z0,.pointer (some ⟨H.length,0,none⟩),.int .i64 0,.int .i64 (k:Nat),z4,z5]) (g.val-1) ?_ ?_
 ·exact⟨1,_,_,_,by omega,by omega,rfl,hxG,g0,rfl⟩
 clear g0 hxG
 rintro m S H1 ⟨k,z0,z4,z5,hk1,hkn,rfl,hx1,g0,rfl⟩
 obtain⟨n,hn,hnq⟩:∃n,Ord (⟨k,by omega⟩:El f) n∧n≤f.q-1:=by
  refine(OkC.ok (f:=f)).num.ord ⟨k,by omega⟩ (fun e=>?_)
  have:k=0:=congrArg El.val e
  omega
 unfold fvC at g0
 (try simp only[ctlB])
 refine xCGd (fun h=>?_) (fun h=>?_)
 rotate_left
 ·simp at h;omega
 clear h
 (try simp only[ctlB])
 refine xHGd ?_
 refine wpH_call1 (rorder hn (by omega)) ?_
 rintro v H2 ⟨hx2,rfl⟩
 have g0:=hx2.get g0
 have hx2:=hx1.trans hx2
 (try simp only[ctlB])
 refine xCGd (fun h=>?_) (fun h=>?_)
 ·have he:n=f.q-1:=by simp at h;omega
  clear h
  have hkk:k=g.val:=by
   apply Decidable.byContradiction
   intro hc
   rw[he]at hn
   exact hg.min ⟨k,by omega⟩ hk1 (by show k<g.val;omega) hn
  (try simp only[ctlB])
  repeat' ((first|refine xSGd ?_|refine xOGd rfl ?_);(try simp only[ctlB]))
  refine xRGd ?_
  exact⟨hx2,by rw[←hkk];rfl⟩
 ·have hne:n≠f.q-1:=by simp at h;omega
  clear h
  have hlt:k<g.val:=by
   apply Decidable.byContradiction
   intro hc
   have hkg:(⟨k,by omega⟩:El f)=g:=El.ext (by show k=g.val;omega)
   rw[hkg]at hn
   exact hne (Nat.dvd_antisymm (ord_dvd hn (gn_ord hg).2.1) (ord_dvd (gn_ord hg) hn.2.1))
  (try simp only[ctlB])
  repeat' ((first|refine xSGd ?_|refine xOGd rfl ?_);(try simp only[ctlB]))
  simp only[loopQ_n]
  exact⟨g.val-(k+1),by omega,k+1,_,_,_,by omega,by omega,rfl,hx2,g0,(by first|rfl|(simp only[Int.natCast_add,Int.natCast_one];rfl)|simp only[Int.natCast_add,Int.natCast_one])⟩
end
end Go.Proofs.YtmnlgdpdgjbfgaaGreat
namespace Go.Proofs.YtmnlgdpdgjbfgaaGreat
open Go.Abs Go.RS
set_option linter.unusedSimpArgs false
set_option linter.unusedVariables false
set_option maxRecDepth 20000
section
variable {f:FD}[OkC f]
theorem tab_succ(n:Nat)(F:Nat→El f):tab (n+1) F=tab n F++[F n]:=by simp[tab,List.range_succ]
theorem elL_snoc(l:List (El f))(x:El f):elL (l++[x])=elL l++[encK x]:=by simp[elL]
set_option linter.defProp false in
def xBHd:=And.intro @Int.cast_ofNat_Int (And.intro @fv.eq_1 (And.intro @fvf.eq_1 (And.intro @fvC.eq_1 (And.intro @cdC.eq_1 (And.intro @elL_at (And.intro @elL_len (And.intro @elL_set' @zerosEl)))))))
theorem xEHd{P:Prop}(h:P:=by simp(disch:=first|omega|(simp only[lenB];omega))only[evB,xBHd,Nat.reduceAdd,Nat.reduceBEq, *];rfl):P:=h
theorem xSHd{cp:FuncId→Option CF}{lo:Nat}{l:List (Nat×E)}{chk:List E}{Q:Post}{S:List Value}{H:Heap}{vs:List (Nat×Value)}{S':List Value}(k:Q .normal S' H)(h:evSets S H l=some vs:=by exact xEHd)(hc:evChk S H chk=true:=by simp(disch:=first|omega|(simp only[lenB];omega))only[evB,xBHd,Nat.reduceAdd,Nat.reduceBEq, *])(hS:setAll S vs=S':=by exact xEHd):wpS cp lo (.sets l chk) Q S H:=aw_sets h hc hS k
theorem xHHd{cp:FuncId→Option CF}{lo:Nat}{l:List (Nat×E)}{chk:List E}{Q:Post}{S:List Value}{H:Heap}{vs:List (Nat×Value)}{dst:Option Nat}{o:HOp}{a:E}{xs:List Value}(k:wpH cp lo o xs H fun v H'=>Q .normal (setD (setAll S vs) dst v) H')(h:evSets S H l=some vs:=by exact xEHd)(hc:evChk S H chk=true:=by simp(disch:=first|omega|(simp only[lenB];omega))only[evB,xBHd,Nat.reduceAdd,Nat.reduceBEq, *])(ha:ev S H a=some xs:=by exact xEHd):wpS cp lo (.hv l chk [] dst o a) Q S H:=aw_hv h hc ha k
theorem xOHd{cp:FuncId→Option CF}{lo:Nat}{l:List (Nat×E)}{chk:List E}{Q:Post}{S:List Value}{H:Heap}{vs:List (Nat×Value)}{dst:Option Nat}{o:HOp}{a:E}{xs:List Value}{S':List Value}{H':Heap}{v:Value}(hcall:o.isCall=false)(k:Q .normal S' H')(h:evSets S H l=some vs:=by exact xEHd)(hc:evChk S H chk=true:=by simp(disch:=first|omega|(simp only[lenB];omega))only[evB,xBHd,Nat.reduceAdd,Nat.reduceBEq, *])(ha:ev S H a=some xs:=by exact xEHd)(ho:hsem0 lo o xs H=some (v,H'):=by exact xEHd)(hS:setD (setAll S vs) dst v=S':=by exact xEHd):wpS cp lo (.hv l chk [] dst o a) Q S H:=aw_op hcall h hc ha ho hS k
theorem xRHd{cf:CF}{R:Value→Heap→Prop}{S:List Value}{H:Heap}{vs:List Value}(k:R (resultOf vs) H)(h:evList S H cf.res=some vs:=by exact xEHd):bodyQ cf R .ret S H:=body_ret h k
theorem rootsV{lo:Nat}{H:Heap}{g:El f}(hlo:lo≤H.length)(hg:Gn (OkC.ok (f:=f)) g)(r b:Nat)(hr:r≤100000000)(hb:b≤100000000):Ev cp lo 111 [cdV f r b] H (fun v H'=>Ext H H'∧SlE H' v (tab r (fun i=>pw g (b+i)))):=by
 unfold cdV
 refine st111 ?_;unfold bd111 cf111;simp only[kB,ctlB]
 repeat' ((first|refine xSHd ?_|refine xOHd rfl ?_);(try simp only[ctlB]))
 refine xHHd ?_
 refine wpH_call0 (rprimitive hg) ?_
 rintro v H1 ⟨hx1,rfl⟩
 have g0:H1.get H.length=some _:=hx1.get (xEHd)
 have hx1:=hx1.of_app
 (try simp only[ctlB])
 repeat' ((first|refine xSHd ?_|refine xOHd rfl ?_);(try simp only[ctlB]))
 refine xHHd ?_
 refine wpH_call0 (rpower g b (by omega)) ?_
 rintro v H2 ⟨hx2,rfl⟩
 have g0:=hx2.get g0
 have hx2:=hx1.trans hx2
 have hl2:=Heap.get_lt g0
 (try simp only[ctlB])
 repeat' ((first|refine xSHd ?_|refine xOHd rfl ?_);(try simp only[ctlB]))
 refine aw_for (fun i S H'=>Ext H H'∧H'.get H.length=some (cdC f r b)∧∃vd bd,H.length<bd∧Own lo 1 H' vd bd (elL (tab i (fun k=>pw g (b+k))))∧∃(z:Nat→Value),S=[z 0,.pointer (some ⟨H.length,0,none⟩),.slice none 0 0,.int .i64 (g.val:Nat),vd,.int .i64 ((pw g (b+i)).val:Nat),.int .i64 (i:Nat),z 7,z 8,z 9,z 10,z 11,z 12]) r ?_ ?_ ?_ ?_
 ·exact⟨hx2,g0,_,H2.length,by omega,Own.nil (by have:=hx2.1;omega),exZGc rfl⟩
 ·rintro i S H' hi ⟨hx,f0,vd,bd,hbd,hown,z,rfl⟩
  exact⟨_,xEHd,by simp⟩
 ·clear g0 hx2 hx1 hl2
  rintro i S H1 hi ⟨hx1,f0,vd,bd,hbd,hown,z,rfl⟩
  have hl1:=hx1.1
  have hml:=tab_len i (fun k=>pw g (b+k))
  (try simp only[ctlB])
  repeat' ((first|refine xSHd ?_|refine xOHd rfl ?_);(try simp only[ctlB]))
  refine xHHd ?_
  refine wpH_app (c:=[encK (pw g (b+i))]) (hown.mono (Ext.app _ _)) (by simp;omega) (by omega) (by omega) (by rw[elL_len,hml];omega) get_app0 (by simp) rfl rfl ?_
  rintro v' H3 hown3 hk hl3
  have hE:=Ext.app H1 [some [Value.int .i64 ((pw g (b+i)).val:Nat)]]
  have hx3:=hk.ext (hx1.trans hE) (by omega)
  have f0:=hk.get (hE.get f0) (by omega)
  simp only[List.length_append,List.length_cons,List.length_nil]at hown3
  have hl3:=hx3.1
  clear hml
  (try simp only[ctlB])
  repeat' ((first|refine xSHd ?_|refine xOHd rfl ?_);(try simp only[ctlB]))
  refine xHHd ?_
  refine wpH_call0 (rtimes (pw g (b+i)) g) ?_
  rintro v H4 ⟨hx4,rfl⟩
  have f0:=hx4.get f0
  have hown4:=hown3.mono hx4
  have hx4:=hx3.trans hx4
  (try simp only[ctlB])
  repeat' ((first|refine xSHd ?_|refine xOHd rfl ?_);(try simp only[ctlB]))
  exact⟨hx4,f0,_,H1.length+(0+1),by omega,by rw[tab_succ,elL_snoc];exact hown4,exZGc (by first|rfl|(simp only[Int.natCast_add,Int.natCast_one];rfl)|simp only[Int.natCast_add,Int.natCast_one])⟩
 ·rintro S H1 ⟨hx1,f0,vd,bd,hbd,hown,z,rfl⟩
  (try simp only[ctlB])
  repeat' ((first|refine xSHd ?_|refine xOHd rfl ?_);(try simp only[ctlB]))
  refine xRHd ?_
  exact⟨hx1,Sl.ofOwn hown⟩
end
end Go.Proofs.YtmnlgdpdgjbfgaaGreat
namespace Go.Proofs.YtmnlgdpdgjbfgaaGreat
open Go.Abs Go.RS
set_option linter.unusedSimpArgs false
set_option linter.unusedVariables false
set_option maxRecDepth 20000
section
variable {f:FD}[OkC f]
end
end Go.Proofs.YtmnlgdpdgjbfgaaGreat
namespace Go.Proofs.YtmnlgdpdgjbfgaaGreat
open Go.Abs Go.RS
set_option linter.unusedSimpArgs false
set_option linter.unusedVariables false
set_option maxRecDepth 20000
section
variable {f:FD}[OkC f]
theorem ls_min'{H:Heap}(a b:Nat):lsem (.minmax false) [.int .i64 (a:Int),.int .i64 (b:Int)] H=some (.int .i64 ((min a b:Nat):Int)):=by
 rw[ls_min]
 congr 2
 split<;>omega
theorem ls_max0{H:Heap}(a b:Nat):lsem (.minmax true) [.int .i64 0,.int .i64 ((a:Int)+(b:Int)-1)] H=some (.int .i64 ((a+b-1:Nat):Int)):=by
 rw[ls_max]
 congr 2
 split<;>omega
set_option linter.defProp false in
def xBHf:=And.intro @Int.cast_ofNat_Int (And.intro @fv.eq_1 (And.intro @fvf.eq_1 (And.intro @fvC.eq_1 (And.intro @cdC.eq_1 (And.intro @elL_at (And.intro @elL_len (And.intro @elL_set' (And.intro @zerosEl @ite_self.{1}))))))))
theorem xEHf{P:Prop}(h:P:=by simp(disch:=first|omega|(simp only[lenB];omega))only[evB,xBHf,Nat.reduceAdd,Nat.reduceBEq, *];rfl):P:=h
theorem xSHf{cp:FuncId→Option CF}{lo:Nat}{l:List (Nat×E)}{chk:List E}{Q:Post}{S:List Value}{H:Heap}{vs:List (Nat×Value)}{S':List Value}(k:Q .normal S' H)(h:evSets S H l=some vs:=by exact xEHf)(hc:evChk S H chk=true:=by simp(disch:=first|omega|(simp only[lenB];omega))only[evB,xBHf,Nat.reduceAdd,Nat.reduceBEq, *])(hS:setAll S vs=S':=by exact xEHf):wpS cp lo (.sets l chk) Q S H:=aw_sets h hc hS k
theorem xHHf{cp:FuncId→Option CF}{lo:Nat}{l:List (Nat×E)}{chk:List E}{Q:Post}{S:List Value}{H:Heap}{vs:List (Nat×Value)}{dst:Option Nat}{o:HOp}{a:E}{xs:List Value}(k:wpH cp lo o xs H fun v H'=>Q .normal (setD (setAll S vs) dst v) H')(h:evSets S H l=some vs:=by exact xEHf)(hc:evChk S H chk=true:=by simp(disch:=first|omega|(simp only[lenB];omega))only[evB,xBHf,Nat.reduceAdd,Nat.reduceBEq, *])(ha:ev S H a=some xs:=by exact xEHf):wpS cp lo (.hv l chk [] dst o a) Q S H:=aw_hv h hc ha k
theorem xOHf{cp:FuncId→Option CF}{lo:Nat}{l:List (Nat×E)}{chk:List E}{Q:Post}{S:List Value}{H:Heap}{vs:List (Nat×Value)}{dst:Option Nat}{o:HOp}{a:E}{xs:List Value}{S':List Value}{H':Heap}{v:Value}(hcall:o.isCall=false)(k:Q .normal S' H')(h:evSets S H l=some vs:=by exact xEHf)(hc:evChk S H chk=true:=by simp(disch:=first|omega|(simp only[lenB];omega))only[evB,xBHf,Nat.reduceAdd,Nat.reduceBEq, *])(ha:ev S H a=some xs:=by exact xEHf)(ho:hsem0 lo o xs H=some (v,H'):=by exact xEHf)(hS:setD (setAll S vs) dst v=S':=by exact xEHf):wpS cp lo (.hv l chk [] dst o a) Q S H:=aw_op hcall h hc ha ho hS k
theorem xRHf{cf:CF}{R:Value→Heap→Prop}{S:List Value}{H:Heap}{vs:List Value}(k:R (resultOf vs) H)(h:evList S H cf.res=some vs:=by exact xEHf):bodyQ cf R .ret S H:=body_ret h k
set_option maxHeartbeats 2000000 in
theorem productV{lo:Nat}{H:Heap}{vp vq:Value}{p q:List (El f)}(hlo:lo≤H.length)(hp:SlE H vp p)(hq:SlE H vq q)(hpl:p.length≤100000000)(hql:q.length≤100000000)(n:Nat)(hn:n≤100000000) :
  Ev cp lo 112 [fvf f,vp,vq,.int .i64 n] H (fun v H'=>Ext H H'∧∃b,H.length≤b∧v=.slice (some ⟨b,0,none⟩) (min n (p.length+q.length-1)) (min n (p.length+q.length-1))∧H'.get b=some (elL (tab (min n (p.length+q.length-1)) (cv (co p) (co q))))):=by
 have hp0:=hp
 have hq0:=hq
 obtain⟨ap,cp',rfl⟩:=hp.len
 obtain⟨aq,cq,rfl⟩:=hq.len
 have hmx:=fun(H:Heap)=>ls_max0 (H:=H) p.length q.length
 have hmn:=fun(H:Heap)=>ls_min' (H:=H) n (p.length+q.length-1)
 have hN:min n (p.length+q.length-1)≤100000000:=by omega
 unfold fvf fv
 refine st112 ?_;unfold bd112 cf112;simp only[kB,ctlB]
 repeat' ((first|refine xSHf ?_|refine xOHf rfl ?_);(try simp only[ctlB]))
 generalize hG:H++_=G at *
 have g0:G.get H.length=some (fvC f):=by rw[←hG];exact get_app0
 have g1:G.get (H.length+1)=some (elL (tab (min n (p.length+q.length-1)) (fun _=>(0:El f)))):=by rw[←hG,get_appS,replicate_tab];rfl
 have hxG:Ext H G:=by rw[←hG];exact Ext.app _ _
 clear hG hmx hmn
 generalize min n (p.length+q.length-1)=N at *
 refine aw_for (fun i S H'=>Ext H H'∧H'.get H.length=some (fvC f)∧H'.get (H.length+1)=some (elL (tab N (rows (co p) (co q) i)))∧∃(z:Nat→Value),S=[z 0,.slice ap p.length cp',.slice aq q.length cq,z 3,.pointer (some ⟨H.length,0,none⟩),.slice none 0 0,.slice (some ⟨H.length+1,0,none⟩) N N,.int .i64 (i:Nat),z 8,z 9,z 10,z 11,z 12,z 13,z 14,z 15]) p.length ?_ ?_ ?_ ?_
 ·exact⟨hxG,g0,g1,exZGc rfl⟩
 ·rintro i S H' hi ⟨hx,f0,f1,z,rfl⟩
  exact⟨_,xEHf,by simp⟩
 ·clear g0 g1 hxG
  rintro i S H1 hi ⟨hx1,f0,f1,z,rfl⟩
  obtain⟨b,o,sp,cap,xs,e,gx,hat,hxl⟩:=sle_at hp0 (by omega)
  cases e
  have hati:=hat i hi
  have hl1:=Heap.get_lt f1
  have hbH:=Heap.get_lt gx
  clear hat
  (try simp only[ctlB])
  repeat' ((first|refine xSHf ?_|refine xOHf rfl ?_);(try simp only[ctlB]))
  refine aw_for (fun j S H'=>Ext H H'∧H'.get H.length=some (fvC f)∧H'.get (H.length+1)=some (elL (tab N (fun k=>rows (co p) (co q) i k+(if i≤k∧k<i+j then co p i*co q (k-i) else 0))))∧∃(z:Nat→Value),S=[z 0,.slice (some ⟨b,o,sp⟩) p.length cp',.slice aq q.length cq,z 3,.pointer (some ⟨H.length,0,none⟩),.slice none 0 0,.slice (some ⟨H.length+1,0,none⟩) N N,.int .i64 (i:Nat),.int .i64 (j:Nat),z 9,z 10,z 11,z 12,z 13,z 14,z 15]) (min q.length (N-i)) ?_ ?_ ?_ ?_
  ·refine⟨hx1,f0,?_,exZGc rfl⟩
   rw[f1]
   congr 2
   refine tab_congr fun k _=>?_
   rw[if_neg (by omega),add_zero]
  ·rintro j S H' hj ⟨hx,f0,f1,z,rfl⟩
   exact⟨_,xEHf,by simp;omega⟩
  ·clear f0 f1 hl1 hx1
   rintro j S H1 hj ⟨hx1,f0,f1,z,rfl⟩
   obtain⟨b',o',sp',cap',ys,e',gy,hay,hyl⟩:=sle_at hq0 (by omega)
   cases e'
   have gy:=hx1.get gy
   have gx:=hx1.get gx
   have hayj:=hay j (by omega)
   have hget:(tab N (fun k=>rows (co p) (co q) i k+(if i≤k∧k<i+j then co p i*co q (k-i) else 0))).getD (i+j) 0=rows (co p) (co q) i (i+j):=by
    rw[tab_getD (by omega),if_neg (by omega),add_zero]
   have hset:(tab N (fun k=>rows (co p) (co q) i k+(if i≤k∧k<i+j then co p i*co q (k-i) else 0))).set (i+j) (rows (co p) (co q) i (i+j)+co p i*co q j)=tab N (fun k=>rows (co p) (co q) i k+(if i≤k∧k<i+(j+1) then co p i*co q (k-i) else 0)):=by
    rw[tab_set]
    refine tab_congr fun k hk=>?_
    by_cases e:k=i+j
    ·rw[if_pos e,if_pos (by omega),e,show i+j-i=j by omega]
    ·rw[if_neg e]
     by_cases h2:i≤k∧k<i+j
     ·rw[if_pos h2,if_pos (by omega)]
     ·rw[if_neg h2,if_neg (by omega)]
   have hlen2:(tab N (fun k=>rows (co p) (co q) i k+(if i≤k∧k<i+j then co p i*co q (k-i) else 0))).length≤N∧N≤(tab N (fun k=>rows (co p) (co q) i k+(if i≤k∧k<i+j then co p i*co q (k-i) else 0))).length:=by rw[tab_len];omega
   generalize tab N (fun k=>rows (co p) (co q) i k+(if i≤k∧k<i+j then co p i*co q (k-i) else 0))=T at *
   have hin:((i:Int)+(j:Int))=((i+j:Nat):Int):=by omega
   have hl1:=Heap.get_lt f1
   clear hay
   (try simp only[ctlB])
   repeat' ((first|refine xSHf ?_|refine xOHf rfl ?_);(try simp only[ctlB]))
   refine xHHf ?_
   refine wpH_call1 (rtimes (co p i) (co q j)) ?_
   rintro v H2 ⟨hx2,rfl⟩
   have f0:=(hx2).get f0;have f1:=(hx2).get f1
   have hx2:=hx1.trans hx2
   (try simp only[ctlB])
   refine xHHf ?_
   refine wpH_call0 (rplus (rows (co p) (co q) i (i+j)) (co p i*co q j)) ?_
   rintro v H3 ⟨hx3,rfl⟩
   have f0:=(hx3).get f0;have f1:=(hx3).get f1
   have hx3:=hx2.trans hx3
   have hl3:=Heap.get_lt f1
   clear hget
   (try simp only[ctlB])
   repeat' ((first|refine xSHf ?_|refine xOHf rfl ?_);(try simp only[ctlB]))
   exact⟨hx3.set (by omega),by simp(disch:=first|omega|(simp only[lenB];omega))only[evB,xBHf,Nat.reduceAdd,Nat.reduceBEq, *],by rw[get_set_self (by omega)],exZGc (by first|rfl|(simp only[Int.natCast_add,Int.natCast_one];rfl)|simp only[Int.natCast_add,Int.natCast_one])⟩
  ·clear f0 f1 hl1 hx1
   rintro S H1 ⟨hx1,f0,f1,z,rfl⟩
   (try simp only[ctlB])
   repeat' ((first|refine xSHf ?_|refine xOHf rfl ?_);(try simp only[ctlB]))
   refine⟨hx1,f0,?_,exZGc (by first|rfl|(simp only[Int.natCast_add,Int.natCast_one];rfl)|simp only[Int.natCast_add,Int.natCast_one])⟩
   rw[f1]
   congr 2
   refine tab_congr fun k hk=>?_
   rw[rows_succ]
   congr 1
   by_cases h1:i≤k
   ·rw[sh_ge _ h1]
    by_cases h2:k<i+min q.length (N-i)
    ·rw[if_pos ⟨h1,h2⟩]
    ·rw[if_neg (by omega),co_ge (l:=q) (by omega),mul_zero]
   ·rw[if_neg (by omega),sh_lt _ (by omega),mul_zero]
 ·rintro S H1 ⟨hx1,f0,f1,z,rfl⟩
  (try simp only[ctlB])
  repeat' ((first|refine xSHf ?_|refine xOHf rfl ?_);(try simp only[ctlB]))
  refine xRHf ?_
  refine⟨hx1,H.length+1,by omega,rfl,?_⟩
  rw[f1]
  congr 2
  exact tab_congr fun k hk=>rows_cv (fun i hi=>co_ge hi) k
theorem sub_zero_neg(x:El f):(0:El f)-x=-x:=zero_add _
theorem generatorV{lo:Nat}{H:Heap}{g:El f}(hlo:lo≤H.length)(hg:Gn (OkC.ok (f:=f)) g)(r b:Nat)(hr:r≤10000000)(hb:b≤10000000):Ev cp lo 66 [cdV f r b] H (fun v H'=>Ext H H'∧SlE H' v (genL (fun i=>pw g (b+i)) r)):=by
 unfold cdV
 refine st66 ?_;unfold bd66 cf66;simp only[kB,ctlB]
 repeat' ((first|refine xSHf ?_|refine xOHf rfl ?_);(try simp only[ctlB]))
 generalize hG:H++_=G at *
 have g0:G.get H.length=some (cdC f r b):=by rw[←hG];exact get_app0
 have g1:G.get (H.length+1)=some (elL (genL (fun i=>pw g (b+i)) 0)):=by rw[←hG,get_appS];rfl
 have hxG:Ext H G:=by rw[←hG];exact Ext.app _ _
 clear hG
 have hl0:=hxG.1
 refine xHHf ?_
 refine wpH_call0 (rootsV (by omega) hg r b (by omega) (by omega)) ?_
 rintro v H1 ⟨hx1,hroots⟩
 have g0:=(hx1).get g0;have g1:=(hx1).get g1
 have hx1:=hxG.trans hx1
 have hr0:=hroots
 have hrl:=tab_len r (fun i=>pw g (b+i))
 obtain⟨ar,cr,rfl⟩:=hroots.len
 rw[hrl]
 have hl1:=Heap.get_lt g0
 (try simp only[ctlB])
 repeat' ((first|refine xSHf ?_|refine xOHf rfl ?_);(try simp only[ctlB]))
 refine aw_for (fun i S H'=>Ext H1 H'∧∃bb,H'.get bb=some (elL (genL (fun i=>pw g (b+i)) i))∧∃(z:Nat→Value),S=[z 0,.pointer (some ⟨H.length,0,none⟩),.slice none 0 0,.slice (some ⟨bb,0,none⟩) (i+1) (i+1),.slice ar r cr,.int .i64 (i:Nat),z 6,z 7,z 8,z 9,z 10,z 11,z 12,z 13]) r ?_ ?_ ?_ ?_
 ·exact⟨Ext.refl _,H.length+1,g1,exZGc rfl⟩
 ·rintro i S H' hi ⟨hx,bb,fb,z,rfl⟩
  exact⟨_,xEHf,by simp⟩
 ·clear g1
  rintro i S H2 hi ⟨hx2,bb,fb,z,rfl⟩
  have hl2:=hx2.1
  obtain⟨b',o,sp,cap,xs,e,gx,hat,hxl⟩:=sle_at hr0 (by rw[hrl];omega)
  cases e
  rw[hrl]at hat hxl
  have gx:=hx2.get gx
  have f0:=hx2.get g0
  have hati:=hat i hi
  have hco:co (tab r (fun i=>pw g (b+i))) i=pw g (b+i):=by rw[co_tab,if_pos hi]
  rw[hco]at hati
  have hi1:(((i+1:Nat):Int)+1)=((i+2:Nat):Int):=by omega
  clear hat
  (try simp only[ctlB])
  repeat' ((first|refine xSHf ?_|refine xOHf rfl ?_);(try simp only[ctlB]))
  refine xHHf ?_
  refine wpH_call1 (rminus (0:El f) (pw g (b+i))) ?_
  rintro v H3 ⟨hx3,rfl⟩
  rw[sub_zero_neg]
  have fb:=hx3.get fb
  have hx3:=hx2.trans hx3
  have hl3:=hx3.1
  (try simp only[ctlB])
  repeat' ((first|refine xSHf ?_|refine xOHf rfl ?_);(try simp only[ctlB]))
  refine xHHf ?_
  have hgl:=genL_len (fun i=>pw g (b+i)) i
  have hs1:=sle_whole (sp:=none) fb hgl
  have hs2:SlE (H3++[some [Value.int .i64 ((-pw g (b+i)).val:Nat),Value.int .i64 1]]) (.slice (some ⟨H3.length,0,none⟩) 2 2) [-pw g (b+i),(1:El f)]:=sle_whole (l:=[-pw g (b+i),(1:El f)]) get_app0 rfl
  refine wpH_call0 (productV (by simp;omega) (hs1.mono (Ext.app _ _)) hs2 (by rw[hgl];omega) (by simp) (i+2) (by omega)) ?_
  rintro v H4 ⟨hx4,b4,hb4,rfl,f4⟩
  have hmin:min (i+2) ((genL (fun i=>pw g (b+i)) i).length+[-pw g (b+i),(1:El f)].length-1)=i+2:=by rw[hgl];simp
  rw[hmin]at f4 ⊢
  have hgen:tab (i+2) (cv (co (genL (fun i=>pw g (b+i)) i)) (co [-pw g (b+i),(1:El f)]))=genL (fun i=>pw g (b+i)) (i+1):=by
   rw[co_genL,mon_co];rfl
  rw[hgen]at f4
  have hx4:=hx3.trans hx4.of_app
  clear hi1
  (try simp only[ctlB])
  repeat' ((first|refine xSHf ?_|refine xOHf rfl ?_);(try simp only[ctlB]))
  exact⟨hx4,b4,f4,exZGc (by first|rfl|(simp only[Int.natCast_add,Int.natCast_one];rfl)|simp only[Int.natCast_add,Int.natCast_one])⟩
 ·rintro S H2 ⟨hx2,bb,fb,z,rfl⟩
  (try simp only[ctlB])
  repeat' ((first|refine xSHf ?_|refine xOHf rfl ?_);(try simp only[ctlB]))
  refine xRHf ?_
  refine⟨hx1.trans hx2,?_⟩
  exact sle_whole (sp:=none) fb (genL_len _ _)
end
end Go.Proofs.YtmnlgdpdgjbfgaaGreat
