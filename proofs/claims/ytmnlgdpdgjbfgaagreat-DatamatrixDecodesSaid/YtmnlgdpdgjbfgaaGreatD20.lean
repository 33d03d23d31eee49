/- Lemmas. -/
import Derived.Test.YtmnlgdpdgjbfgaaGreatD9
import Derived.Test.YtmnlgdpdgjbfgaaGreatD10
import Derived.Test.YtmnlgdpdgjbfgaaGreatD11
import Derived.Test.YtmnlgdpdgjbfgaaGreatD19
set_option linter.all false
namespace Go.Proofs.YtmnlgdpdgjbfgaaGreat
open Go.Abs
set_option maxRecDepth 100000
theorem Rj:(List.range 40).all (fun k=>isInt (jT k:Nat) ((run cp 6).ret 0 144 [.int .i64 (k:Nat)] []))=true:=by kernel_rfl
theorem Qv:(List.range 4).all (fun s=>(List.range 40).all fun k=>[false,true].all fun b=>isInt (if hZ b s k=128 then -1 else(hZ b s k:Int)) ((run cp 4).ret 0 187 [.int .i64 (if b then 2 else 1),.int .i64 (s:Nat),.int .i64 (k:Nat)] []))=true:=by kernel_rfl
section
variable {lo:Nat}{H:Heap}
theorem Ri{k:Nat}(hk:k<40)(hlo:lo<=H.length):Ev cp lo 144 [aD k] H (fun v H'=>v=aD (jT k)/\Ext H H'):=
 lO kX (n:=6) (v:=aD (jT k)) rfl (q9 (List.all_eq_true.1 Rj k (List.mem_range.2 hk))) rfl hlo
theorem Qu{m s k:Nat}(hm:m=1\/m=2)(hs:s<4)(hk:k<40)(hlo:lo<=H.length):Ev cp lo 187 [aD m,aD s,aD k] H (fun v H'=>v=.int .i64 (if hZ (m==2) s k=128 then -1 else(hZ (m==2) s k:Int))/\Ext H H'):=by
 have h:=List.all_eq_true.1 (List.all_eq_true.1 (List.all_eq_true.1 Qv s (List.mem_range.2 hs)) k (List.mem_range.2 hk));rcases hm with rfl|rfl
 ·exact lO kX (n:=4) rfl (q9 (h false (by simp))) rfl hlo
 ·exact lO kX (n:=4) rfl (q9 (h true (by simp))) rfl hlo
open XMDc
end
end Go.Proofs.YtmnlgdpdgjbfgaaGreat
namespace Go.RS
section
variable {K:Type}[Fd K]
theorem u6(X:K)(l:List K)(x:K):pv (aX (l++[X])) (l.length+1) x=pv (aX l) l.length x*(1-X*x):=by
 have:=nU (kZ X) (dt l) x;rw[qx,show 1+l.length=l.length+1 by omega]at this;rw[fS,this,mul_comm]
def dnm(X:Nat->K)(P:List Nat)(p:Nat)(y:K)(j:Nat):K:=pv (aX (((P.take j).filter fun k=>decide (k≠p)).map X)) ((P.take j).filter fun k=>decide (k≠p)).length y
theorem Cl(X:Nat->K)(P:List Nat)(p:Nat)(y:K):dnm X P p y 0=1:=by
 unfold dnm;rw[List.take_zero,List.filter_nil,al₀,an₀,aX,JW]
theorem lG{P:List Nat}{j:Nat}(hj:j<P.length):P.take (j+1)=P.take j++[P.getD j 0]:=by
 rw[List.take_add_one,bb₀ hj,au₀,bb₀ hj];rfl
theorem Cj{X:Nat->K}{P:List Nat}{p:Nat}{y:K}{j:Nat}(hj:j<P.length)(h:P.getD j 0=p):dnm X P p y (j+1)=dnm X P p y j:=by
 unfold dnm;have e:(P.take (j+1)).filter (fun k=>decide (k≠p))=(P.take j).filter (fun k=>decide (k≠p)):=by
  rw[lG hj,List.filter_append,List.filter_cons_of_neg (by rw[h];simp),List.filter_nil,List.append_nil]
 rw[e]
theorem Ck{X:Nat->K}{P:List Nat}{p:Nat}{y:K}{j:Nat}(hj:j<P.length)(h:P.getD j 0≠p):dnm X P p y (j+1)=dnm X P p y j*(1-X (P.getD j 0)*y):=by
 unfold dnm;have e:(P.take (j+1)).filter (fun k=>decide (k≠p))=(P.take j).filter (fun k=>decide (k≠p))++[P.getD j 0]:=by
  rw[lG hj,List.filter_append,List.filter_cons_of_pos (by rw[af₀];exact h),List.filter_nil]
 rw[e,List.map_append,as₀,ag₀,al₀,ak₀,an₀];have:=u6 (X (P.getD j 0)) (((P.take j).filter fun k=>decide (k≠p)).map X) y;rw[ay₀]at this;exact this
theorem xZ{P:List Nat}(hP:P.Nodup){p:Nat}(hp:p ∈ P):(P.filter fun k=>decide (k≠p)).length=P.length-1:=by
 obtain⟨j,hj,rfl⟩:=List.getElem_of_mem hp;have:=congrArg List.length (erase_filter (K:=Bool) hP hj (fun _=>true));rw[List.length_eraseIdx_of_lt (by simpa using hj),ay₀,ay₀]at this;exact this.symm
theorem yk{X:Nat->K}{P:List Nat}(hP:P.Nodup){p:Nat}(hp:p ∈ P)(y:K):dnm X P p y P.length=pv (aX ((P.filter fun k=>decide (k≠p)).map X)) (P.length-1) y:=by
 unfold dnm;rw[List.take_length,xZ hP hp]
theorem Cs{X:Nat->K}{P:List Nat}(hP:P.Nodup){p:Nat}(hp:p ∈ P)(b r:Nat)(S:Ser K):pG X b r S P p=hor (tab r (cv S (aX (P.map X)))) (inv (X p))*inv (pw (X p) b*dnm X P p (inv (X p)) P.length):=by
 rw[yk hP hp];rfl
theorem K7{X:Nat->K}{n b:Nat}(hX:Places X n){P:List Nat}(hP:P.Nodup)(hb:∀i ∈ P,i<n){p:Nat}(hp:p ∈ P):pw (X p) b*dnm X P p (inv (X p)) P.length≠0:=by
 rw[yk hP hp];exact mul_ne_zero (cL (hX.ne p (hb p hp)) b) (w7 hX hP hb hp).2
theorem CL(X:K):co [1,-X]=lin X:=by
 funext i
 match i with
 | 0=>rfl
 | 1=>rfl
 | i+2=>rfl
theorem DW(l:List K):co (tab (l.length+1) (aX l))=aX l:=by
 funext i;rw[dL];split
 ·rfl
 ·exact(dt l i byO).symm
theorem An(l:List K)(X:K):cv (aX l) (lin X)=aX (l++[X]):=by rw[fS,dS]
end
end Go.RS
namespace Go.Proofs.YtmnlgdpdgjbfgaaGreat
open Go.Abs Go.RS
variable{H:Heap}{lo:Nat}{n:Nat}
set_option maxRecDepth 20000
theorem uJ{a b A B:Int}(h1:-A<=a)(h2:a<=A)(h3:0<=b)(h4:b<=B)(hA:0<=A):-(A*B)<=a*b/\a*b<=A*B:=by
 have e1:a*b<=A*b:=Int.mul_le_mul_of_nonneg_right h2 h3;have e2:A*b<=A*B:=Int.mul_le_mul_of_nonneg_left h4 hA;have e3:-A*b<=a*b:=Int.mul_le_mul_of_nonneg_right h1 h3;rw[Int.neg_mul]at e3;omega
theorem GP{s:ByteArray}{k:IntKind}{i:Int}{b:UInt8}(h0:0<=i)(hs:s[i.toNat]?=some b):aJ .idxS [.string s,.int k i] H=some (.int .u8 b.toNat):=by
 simp[aJ,h0,hs]
def bh(n:Nat):Nat:=if n=0 then 0 else n.log2+1
theorem nM{x k:Nat}(h:2^k<=x):bh x=k+bh (x/2^k):=by
 have hp:0<2^k:=Nat.pow_pos byO;have hy:x/2^k≠0:=by
  have:=(Nat.le_div_iff_mul_le hp).2 (show 1*2^k<=x by omega);omega
 have hx:x≠0:=byO;unfold bh;rw[if_neg hx,if_neg hy];have h1:=fe hy;have h2:=cX (x/2^k);have h3:2^((x/2^k).log2+k)<=x:=by
  rw[Nat.pow_add];exact Nat.le_trans (Nat.mul_le_mul_right _ h1) (Nat.div_mul_le_self x _)
 have h4:x<2^((x/2^k).log2+k+1):=by
  have:x<(x/2^k+1)*2^k:=Nat.lt_mul_of_div_lt byO hp;have h5:(x/2^k+1)*2^k<=2^((x/2^k).log2+1)*2^k:=Nat.mul_le_mul_right _ byO;rw[<-Nat.pow_add,show(x/2^k).log2+1+k=(x/2^k).log2+k+1 by omega]at h5;omega
 rw[ko h3 h4];omega
theorem eA{n k:Nat}(h:n<2^k):bh n<=k:=by
 unfold bh;split
 ·omega
 ·rename_i hn
  have:=Nat.lt_of_le_of_lt (fe hn) h;have:=(Nat.pow_lt_pow_iff_right (by omega:1<2)).1 this;omega
set_option maxRecDepth 100000 in
theorem Kr:((List.range 256).all fun i=>match GB[i]? with|some b=>b.toNat==bh i|none=>false)=true:=by kernel_rfl
theorem Kq{i:Nat}(h:i<256):∃b,GB[i]?=some b/\b.toNat=bh i:=by
 have:=List.all_eq_true.1 Kr i (by simpa using h);split at this
 ·rename_i b hb;exact⟨b,hb,by simpa using this⟩
 ·cases this
theorem lh(n:Nat)(k:Nat)(ik:IntKind)(hk:k<=ik.bits):(n:Int).fdiv (2^(min k ik.bits))=((n/2^k:Nat):Int):=by
 rw[Nat.min_eq_left hk,Int.fdiv_eq_ediv_of_nonneg _ (Int.le_of_lt (Int.pow_pos byO))];simp
namespace XGa
def xtr:=@Int.cast_ofNat_Int
end XGa
open XGa
theorem OM(hn:n<2^64):Ev cp lo 204 [.int .u64 n] H (fun v H'=>H'=H/\v=.int .i64 (bh n:Nat)):=by
 refine stG rfl rfl ?_;unfold JB;simp only[kB,aB];refine aU ?_;have s32:=lh n 32 .u64 (by decide);refine eI (fun S' H'=>H=H'/\∃x s:Nat,x<2^32/\s<=32/\bh n=s+bh x/\S'=[.int .u64 x,.int .i64 s]) ?_ ?_
 ·refine cJ ?_ ?_<;>intro h
  ·have hc:4294967296<=n:=by simp at h;omega
   clear h;refine aU ?_;exact⟨by trivial,n/2^32,32,byO,byO,nM byO,by simp only[show Int.toNat 32=32 from rfl,s32];rfl⟩
  ·have hc:n<4294967296:=by simp at h;omega
   clear h;(try simp only[aB]);exact⟨by trivial,n,0,byO,byO,byO,rfl⟩
 rintro S' H' ⟨rfl,x,s,hx,hs,he,rfl⟩;(try simp only[aB]);have s16:=lh x 16 .u64 (by decide);refine eI (fun S' H'=>H=H'/\∃x s:Nat,x<2^16/\s<=48/\bh n=s+bh x/\S'=[.int .u64 x,.int .i64 s]) ?_ ?_
 ·refine cJ ?_ ?_<;>intro h
  ·have hc:65536<=x:=by simp at h;omega
   clear h;refine aU ?_;exact⟨by trivial,x/2^16,s+16,byO,byO,by rw[he,nM (k:=16) (x:=x) byO];omega,by simp only[show Int.toNat 16=16 from rfl,s16,ap₀];rfl⟩
  ·have hc:x<65536:=by simp at h;omega
   clear h;(try simp only[aB]);exact⟨by trivial,x,s,byO,byO,byO,rfl⟩
 clear s32 s16 hx hs he;rintro S' H' ⟨rfl,x,s,hx,hs,he,rfl⟩;(try simp only[aB]);have s8:=lh x 8 .u64 (by decide);refine eI (fun S' H'=>H=H'/\∃x s:Nat,x<2^8/\s<=56/\bh n=s+bh x/\S'=[.int .u64 x,.int .i64 s]) ?_ ?_
 ·refine cJ ?_ ?_<;>intro h
  ·have hc:256<=x:=by simp at h;omega
   clear h;refine aU ?_;exact⟨by trivial,x/2^8,s+8,byO,byO,by rw[he,nM (k:=8) (x:=x) byO];omega,by simp only[show Int.toNat 8=8 from rfl,s8,ap₀];rfl⟩
  ·have hc:x<256:=by simp at h;omega
   clear h;(try simp only[aB]);exact⟨by trivial,x,s,byO,byO,byO,rfl⟩
 clear s8 hx hs he;rintro S' H' ⟨rfl,x,s,hx,hs,he,rfl⟩;obtain⟨b,hb,hbl⟩:=Kq (show x<256 by omega);have hbl2:=eA hx;have hb2:GB[(x:Int).toNat]?=some b:=hb;have hidx:=GP (H:=H) (k:=.u8) (i:=(x:Int)) byO hb2;clear hb hb2;refine aU ?_;refine dU ?_;refine⟨rfl,?_⟩;rw[he,<-hbl];rfl
theorem QU(hn:n<2^64):Ev cp lo 189 [.int .u64 n] H (fun v H'=>H'=H/\v=.int .i64 (bh n:Nat)):=by
 refine stG rfl rfl ?_;unfold Iu;simp only[kB,aB];refine aU ?_;refine cJ ?_ ?_<;>intro h
 ·cases h
 clear h;(try simp only[aB]);refine dH ?_;refine aA (OM hn) ?_;rintro v H1 ⟨rfl,rfl⟩;refine aU ?_;refine dU ?_;exact⟨rfl,rfl⟩
theorem degree(hn:n<2^63):Ev cp lo 149 [.int .i64 n] H (fun v H'=>H'=H/\v=.int .i64 ((bh n:Nat)-1)):=by
 have hl:=eA hn;refine stG rfl rfl ?_;unfold I1;simp only[kB,aB];refine aU ?_;refine dH ?_;refine aA (QU (n:=n) byO) ?_;rintro v H1 ⟨rfl,rfl⟩;refine aU ?_;refine dU ?_;exact⟨rfl,rfl⟩
def PrN(n:Nat):Prop:=∀d,2<=d->d*d<=n->n%d≠0
theorem zd(h:2<=n):PrN n↔Pr n:=by
 constructor
 ·intro hp
  refine⟨h,fun d hd hlt hdvd=>?_⟩;obtain⟨e,he⟩:=hdvd;have he2:2<=e:=by
   rcases Nat.lt_or_ge e 2 with h1|h1
   ·exfalso
    have:e=0\/e=1:=byO;rcases this with rfl|rfl
    ·simp at he;omega
    ·simp at he;omega
   ·exact h1
  rcases Nat.le_total d e with h1|h1
  ·exact hp d hd (by rw[he];exact Nat.mul_le_mul_left d h1) (by rw[he];exact Nat.mul_mod_right d e)
  ·exact hp e he2 (by rw[he];exact Nat.mul_le_mul_right e h1) (by rw[he];exact Nat.mul_mod_left d e)
 ·intro hp d hd hle hmod
  have:d*2<=d*d:=Nat.mul_le_mul_left d hd;exact hp.2 d hd byO (Nat.dvd_of_mod_eq_zero hmod)
theorem PK(hn:n<=4096):Ev cp lo 148 [.int .i64 n] H (fun v H'=>H'=H/\∃b,v=.bool b/\(b=true↔PrN n)):=by
 refine stG rfl rfl ?_;unfold I0;simp only[kB,aB];refine aU ?_;refine aY (fun m S H'=>∃(d:Nat),2<=d/\d<=n+2/\m=n+3-d/\H=H'/\(∀e,2<=e->e<d->e*e<=n->n%e≠0)/\S=[.int .i64 n,.bool false,.int .i64 d]) (n+1) ?_ ?_
 ·exact⟨2,byO,byO,byO,rfl,fun e h1 h2=>byO,rfl⟩
 rintro m S H' ⟨d,h2,hle,rfl,rfl,hno,rfl⟩;have hm:=uJ (a:=(d:Int)) (b:=(d:Int)) (A:=5000) (B:=5000) byO byO byO byO byO;(try simp only[aB]);refine cJ ?_ ?_<;>intro h
 ·have hc:d*d<=n:=by simp at h;omega
  clear h;have hdn:d<=n:=Nat.le_trans (Nat.le_mul_of_pos_left d byO) hc;have hmod:(n:Int).tmod (d:Int)=((n%d:Nat):Int):=by rw[Int.tmod_eq_emod_of_nonneg byO];rfl
  (try simp only[aB]);refine cJ ?_ ?_<;>intro h
  ·have hz:n%d=0:=by simp at h;omega
   clear h hmod;refine aU ?_;refine dU ?_;exact⟨rfl,false,rfl,by simp;exact fun hp=>hp d h2 hc hz⟩
  ·have hz:n%d≠0:=by simp at h;omega
   clear h hmod;refine aU ?_;simp only[ak];refine⟨n+3-(d+1),byO,d+1,byO,byO,rfl,by trivial,fun e h1 h3=>?_,ncM⟩;by_cases e2:e=d
   ·subst e2;exact fun _=>hz
   ·exact hno e h1 byO
 ·have hc:¬ d*d<=n:=by simp at h;omega
  clear h;refine aU ?_;refine dU ?_;refine⟨rfl,true,rfl,?_⟩;simp only[true_iff];intro e h1 h3;refine hno e h1 ?_ h3;apply Decidable.byContradiction;intro hge;exact hc (Nat.le_trans (Nat.mul_le_mul (show d<=e by omega) (show d<=e by omega)) h3)
theorem dX(h:n≠0):bh n=n.log2+1:=by unfold bh;rw[if_neg h]
theorem oC:bh 0=0:=rfl
theorem yI{p q:Nat}(hq:q≠0)(hp:p≠0)(hle:q.log2<=p.log2):p ^^^ q <<< (p.log2-q.log2)<2^p.log2:=by
 have hp2:(2:Nat)^(p.log2-q.log2)≠0:=Nat.pos_iff_ne_zero.1 (Nat.pow_pos byO);have hs:(q <<< (p.log2-q.log2)).log2=p.log2:=by
  rw[<-fu,xB hq hp2,ko (Nat.le_refl _) (Nat.pow_lt_pow_right byO byO)];omega
 have hs0:q <<< (p.log2-q.log2)≠0:=by rw[<-fu];exact pt hq hp2
 refine Nat.lt_pow_two_of_testBit _ fun i hi=>?_;rw[Nat.testBit_xor];by_cases e:i=p.log2
 ·have:=jH hs0
  rw[hs]at this;rw[e,jH hp,this];rfl
 ·have h1:p.testBit i=false:=mG (cX p) i byO
  have h2:(q <<< (p.log2-q.log2)).testBit i=false:=mG (cX (q <<< (p.log2-q.log2))) i byO;rw[h1,h2];rfl
theorem iI{a b:Nat}(ha:a<2^63)(hb:b<2^63):IntKind.i64.wrap ((BitVec.ofInt IntKind.i64.bits (a:Int) ^^^ BitVec.ofInt IntKind.i64.bits (b:Int)).toNat:Int)=((a ^^^ b:Nat):Int):=by
 rw[show IntKind.i64.bits=64 from rfl,BitVec.ofInt_natCast,BitVec.ofInt_natCast,BitVec.toNat_xor,BitVec.toNat_ofNat,BitVec.toNat_ofNat,Nat.mod_eq_of_lt byO,Nat.mod_eq_of_lt byO];have:a ^^^ b<2^63:=Nat.xor_lt_two_pow ha hb;rw[eX byO byO]
theorem kC{a k:Nat}(h:a*2^k<2^63)(hk:k<=62):IntKind.i64.wrap ((a:Int)*2^(min k IntKind.i64.bits))=((a <<< k:Nat):Int):=by
 rw[show IntKind.i64.bits=64 from rfl,Nat.min_eq_left byO,Nat.shiftLeft_eq];have e:(a:Int)*2^k=((a*2^k:Nat):Int):=by simp
 rw[e,eX byO byO]
theorem E7{q a b:Nat}(h:q<2^b):q <<< a<2^(b+a):=by
 rw[Nat.shiftLeft_eq,Nat.pow_add];exact Nat.mul_lt_mul_of_pos_right h (Nat.pow_pos byO)
theorem BP{p q:Nat}(hp:p<2^62)(hq:q<2^62)(hq0:q≠0):Ev cp lo 190 [.int .i64 p,.int .i64 q] H (fun v H'=>H'=H/\v=.int .i64 (rm p q:Nat)):=by
 have hlq:=dX hq0;have hlq2:=eA hq;refine stG rfl rfl ?_;unfold Iv;simp only[kB,aB];refine aU ?_;refine aY (fun m S H'=>∃(x:Nat) (z3 z4 z5 z6 z7 z8:Value),x<2^62/\m=x/\H=H'/\rm x q=rm p q/\S=[.int .i64 (x:Nat),.int .i64 (q:Nat),.int .i64 0,z3,z4,z5,z6,z7,z8]) p ?_ ?_
 ·exact⟨p,_,_,_,_,_,_,hp,rfl,rfl,rfl,rfl⟩
 rintro m S H' ⟨x,z3,z4,z5,z6,z7,z8,hx,rfl,rfl,hrm,rfl⟩;have hlx:=eA hx;(try simp only[aB]);refine dH ?_;refine aA (degree (n:=m) byO) ?_;rintro v H1 ⟨rfl,rfl⟩;(try simp only[aB]);refine dH ?_;refine aA (degree (n:=q) byO) ?_;rintro v H2 ⟨rfl,rfl⟩;(try simp only[aB]);refine cJ ?_ ?_<;>intro h
 ·have hc:bh q<=bh m:=by simp at h;omega
  clear h;have hm0:m≠0:=by rintro rfl;rw[oC]at hc;omega
  have hlm:=dX hm0;have hred:=yI hq0 hm0 byO;have hml:=fe hm0;have e1:((bh m:Nat):Int)-1-((bh q:Nat)-1)=((m.log2-q.log2:Nat):Int):=byO;have hsl:q <<< (m.log2-q.log2)<2^(q.log2+1+(m.log2-q.log2)):=E7 (cX q);have hpw:2^(q.log2+1+(m.log2-q.log2))<=2^62:=Nat.pow_le_pow_right byO byO;have hsl2:=hsl;rw[Nat.shiftLeft_eq]at hsl2;have e2:=kC (a:=q) (k:=m.log2-q.log2) byO byO;have e3:=iI (a:=m) (b:=q <<< (m.log2-q.log2)) byO byO;(try simp only[aB]);refine dH ?_;refine aA (degree (n:=m) byO) ?_;rintro v H1 ⟨rfl,rfl⟩;(try simp only[aB]);refine dH ?_;refine aA (degree (n:=q) byO) ?_;rintro v H2 ⟨rfl,rfl⟩;clear hlm hlq;refine aU ?_;simp only[ak];exact⟨m ^^^ q <<< (m.log2-q.log2),byO,_,_,_,_,_,_,_,byO,rfl,by trivial,by rw[<-hrm,<-fu,uc hq0],rfl⟩
 ·have hc:bh m<bh q:=by simp at h;omega
  clear h;have hmr:rm m q=m:=by
   apply iF hq0;by_cases hm0:m=0
   ·rw[hm0];exact Nat.pow_pos byO
   ·rw[dX hm0]at hc
    exact bc₀ (cX m) (Nat.pow_le_pow_right byO byO)
  rw[hmr]at hrm;refine aU ?_;refine dU ?_;exact⟨rfl,by rw[<-hrm];rfl⟩
theorem zh{p t:Nat}(ht:t≠0):rm p t=0↔∃m,p=cl t m:=by
 constructor
 ·intro h
  obtain⟨m,hm⟩:=rC ht p;rw[h,Nat.xor_zero]at hm;exact⟨m,hm⟩
 ·rintro⟨m,rfl⟩
  exact tC ht (Nat.pow_pos byO) (m:=m) (by rw[Nat.xor_zero])
theorem wC{a b:Nat}(h:a<=b)(ha:a≠0):a.log2<=b.log2:=by
 have h1:=fe ha;have h2:=cX b;have:2^a.log2<2^(b.log2+1):=byO;have:=(Nat.pow_lt_pow_iff_right (by omega:1<2)).1 this;omega
theorem irreducible{p:Nat}(hp:p<2^62)(h2:2<=p):Ev cp lo 150 [.int .i64 p] H (fun v H'=>H'=H/\∃b,v=.bool b/\(b=true↔Irr p)):=by
 have hlp:=dX (n:=p) byO;have hlp2:=eA hp;refine stG rfl rfl ?_;unfold I2;simp only[kB,aB];refine aU ?_;refine aY (fun m S H'=>∃(q:Nat) (z3 z4 z5 z6:Value),2<=q/\q<=p+1/\m=p+2-q/\H=H'/\(∀t,2<=t->t<q->2*t.log2<=p.log2->¬ ∃m,p=cl t m)/\S=[.int .i64 (p:Nat),.bool false,.int .i64 (q:Nat),z3,z4,z5,z6]) p ?_ ?_
 ·exact⟨2,_,_,_,_,byO,byO,byO,rfl,fun t h1 h2=>byO,rfl⟩
 rintro m S H' ⟨q,z3,z4,z5,z6,hq2,hqp,rfl,rfl,hno,rfl⟩;have hq0:q≠0:=byO;have hlq:=dX hq0;have hlq2:=eA (show q<2^63 by omega);(try simp only[aB]);refine dH ?_;refine aA (degree (n:=q) byO) ?_;rintro v H1 ⟨rfl,rfl⟩;(try simp only[aB]);refine dH ?_;refine aA (degree (n:=p) byO) ?_;rintro v H2 ⟨rfl,rfl⟩;clear hlq2 hlp2;have hlq':bh q<=q.log2+1/\q.log2+1<=bh q:=byO;have hlp':bh p<=p.log2+1/\p.log2+1<=bh p:=byO;have hlq3:=eA (show q<2^63 by omega);have hlp3:=eA (show p<2^63 by omega);clear hlq hlp;(try simp only[aB]);refine cJ ?_ ?_<;>intro h
 ·have hc:2*q.log2<=p.log2:=by simp at h;omega
  clear h;have hlt:q<p:=by
   have h1:=nP hq2;have h3:=cX q;have h4:2^(q.log2+1)<=2^p.log2:=Nat.pow_le_pow_right byO byO;have h5:=fe (show p≠0 by omega);omega
  (try simp only[aB]);refine dH ?_;refine aA (BP (p:=p) (q:=q) hp byO hq0) ?_;rintro v H1 ⟨rfl,rfl⟩;have hz:=zh (p:=p) hq0;(try simp only[aB]);refine cJ ?_ ?_<;>intro h
  ·have hr:rm p q=0:=by simp at h;omega
   clear h;refine aU ?_;refine dU ?_;exact⟨rfl,false,rfl,by simp;exact fun hi=>hi q hq2 hc (hz.1 hr)⟩
  ·have hr:rm p q≠0:=by simp at h;omega
   clear h;refine aU ?_;simp only[ak];refine⟨p+2-(q+1),byO,q+1,_,_,_,_,byO,byO,rfl,by trivial,fun t h1 h3=>?_,ncM⟩;by_cases e:t=q
   ·subst e;exact fun _ hm=>hr (hz.2 hm)
   ·exact hno t h1 byO
 ·have hc:p.log2<2*q.log2:=by simp at h;omega
  clear h;refine aU ?_;refine dU ?_;refine⟨rfl,true,rfl,?_⟩;simp only[true_iff];intro t h1 h3;refine hno t h1 ?_ h3;apply Decidable.byContradiction;intro hge;have:=wC (show q<=t by omega) hq0;omega
end Go.Proofs.YtmnlgdpdgjbfgaaGreat
namespace Go.Proofs.YtmnlgdpdgjbfgaaGreat
open Go.Abs Go.RS
theorem KW(k:IntKind)(a b c a' b' c':Int):aj [1,1,1] [.int k a,.int k b,.int k c] [.int k a',.int k b',.int k c']=some (decide (a=a')&&(decide (b=b')&&decide (c=c'))):=by
 have e:∀x y:Int,(x==y)=decide (x=y):=fun x y=>by rw[Bool.eq_iff_iff];simp
 simp[aj,jN,e]
theorem ic(b:Bool):(if b=true then some true else some false)=some b:=by cases b<;>rfl
theorem iZ(b:Bool):(if b=false then some true else some false)=some (!b):=by cases b<;>rfl
theorem iY{p:Prop}[Decidable p]:(if p then some false else some true)=some (!decide p):=by by_cases h:p<;>simp[h]
def fv(ch sz po:Int):Value:=.agg #[.int .i64 ch,.int .i64 sz,.int .i64 po]
def FD.ch(f:FD):Nat:=if f.poly=0 then f.q else 2
def fvf(f:FD):Value:=fv (FD.ch f) f.q f.poly
def OkF(ch sz po:Int)(f:FD):Prop:=f.Ok/\sz=f.q/\po=f.poly/\ch=FD.ch f
namespace XGb
def xtr:=zzi @Int.cast_ofNat_Int (zzi @KW (zzi @ic (zzi @iZ @iY)))
end XGb
open XGb
set_option maxHeartbeats 1000000 in
theorem valid{lo:Nat}{H:Heap}{ch sz po:Int}(hb:po<=9223372036854775807):Ev cp lo 100 [fv ch sz po] H (fun v H'=>Ext H H'/\∃b,v=.bool b/\(b=true↔∃f,OkF ch sz po f)):=by
 unfold fv;refine stG rfl rfl ?_;unfold Hj;simp only[kB,aB];refine aC ?_;refine aS ?_ ?_<;>intro h
 ·have hpo:po=0:=by simpa using h
  clear h;subst hpo;(try simp only[aB]);refine bP aW gZ aW ?_ ?_<;>intro h
  ·have hc:2<sz/\sz<=4096/\ch=sz:=by simp at h;omega
   obtain⟨n,hn⟩:∃n:Nat,(n:Int)=sz:=⟨sz.toNat,byO⟩;refine⟨_,aW,?_⟩;refine aA (by rw[<-hn];exact PK (n:=n) byO) ?_;rintro v H1 ⟨rfl,b,rfl,hb⟩;clear h;refine aC ?_;refine aT ?_;refine⟨Ext.app _ _,b,?_,?_⟩
   ·have hT:((decide (2<sz)&&decide (sz<=4096))&&((decide (ch=sz)&&(decide (sz=sz)&&decide ((0:Int)=0))) != false))=true:=by simp;omega
    simp[aM,hc]
   ·rw[hb,zd byO]
    constructor
    ·intro hp
     exact⟨⟨n,0⟩,.inl ⟨rfl,by simp;omega,by simp;omega,hp⟩,by simp;omega,rfl,by simp[FD.ch];omega⟩
    ·rintro⟨f,hf,h1,h2,h3⟩
     rcases hf with ⟨e0,e1,e2,e3⟩|⟨e0,e1,_⟩
     ·have:f.q=n:=byO
      rw[<-this];exact e3
     ·exfalso;omega
  ·have hc:¬ (2<sz/\sz<=4096/\ch=sz):=by
    rintro⟨h1,h2,h3⟩;simp[h1,h2,h3]at h
   refine aC ?_;refine aT ?_;refine⟨Ext.app _ _,false,rfl,?_⟩;simp only[ah₀,false_iff];rintro⟨f,hf,h1,h2,h3⟩;apply hc;rcases hf with ⟨e0,e1,e2,e3⟩|⟨e0,e1,_⟩
   ·unfold FD.ch at h3;rw[if_pos e0]at h3;omega
   ·omega
 have hpo:¬ po=0:=by simpa using h
 clear h;(try simp only[aB]);by_cases hp2:po<2
 ·refine bP aW gZ aW (fun h=>by simp[hp2]at h) (fun h=>?_)
  clear h;(try simp only[aB]);refine aS ?_ ?_<;>intro h
  ·clear h
   refine aC ?_;refine aT ?_;refine⟨Ext.app _ _,false,rfl,?_⟩;simp only[ah₀,false_iff];rintro⟨f,hf,h1,h2,h3⟩;rcases hf with ⟨e0,e1,e2,e3⟩|⟨e0,e1,_⟩
   ·omega
   ·omega
  ·simp at h
 obtain⟨p,hp⟩:∃p:Nat,(p:Int)=po:=⟨po.toNat,byO⟩;have hlp:=dX (n:=p) byO;have hlp2:=eA (show p<2^63 by omega);have hlp':bh p<=p.log2+1/\p.log2+1<=bh p:=byO;have hl1:=nP (p:=p) byO;clear hlp;refine bP aW gZ aW (fun h=>⟨_,aW,?_⟩) (fun h=>by simp[hp2]at h);clear h;refine aA (by rw[<-hp];exact degree (n:=p) byO) ?_;rintro v H1 ⟨rfl,rfl⟩;(try simp only[aB]);refine aS ?_ ?_<;>intro h
 ·have hc:12<p.log2:=by simp at h;omega
  clear h;refine aC ?_;refine aT ?_;refine⟨Ext.app _ _,false,rfl,?_⟩;simp only[ah₀,false_iff];rintro⟨f,hf,h1,h2,h3⟩;rcases hf with ⟨e0,e1,e2,e3⟩|⟨e0,e1,e2,_⟩
  ·omega
  ·have:f.poly=p:=byO
   rw[this]at e2;omega
 have hc:p.log2<=12:=by simp at h;omega
 clear h;(try simp only[aB]);refine aQ ?_;refine aN (by rw[<-hp];exact degree (n:=p) byO) ?_;rintro v H2 ⟨rfl,rfl⟩;have e1:(((bh p:Nat):Int)-1).toNat=p.log2:=byO;have e2:=kC (a:=1) (k:=p.log2) (by
  have:2^p.log2<=2^12:=Nat.pow_le_pow_right byO hc;omega) byO
 have e3:IntKind.i64.wrap (1*2^min p.log2 IntKind.i64.bits)=((2^p.log2:Nat):Int):=by
  rw[show(1:Int)=((1:Nat):Int) from rfl,e2,Nat.shiftLeft_eq,Nat.one_mul]
 have hpw:2^p.log2<=2^12:=Nat.pow_le_pow_right byO hc;have hpb:p<2^13:=bc₀ (cX p) (Nat.pow_le_pow_right byO byO);generalize hQ:2^p.log2=Q at *;(try simp only[aB]);refine bP aW gZ aW ?_ ?_<;>intro h
 ·have hcc:ch=2/\sz=(Q:Int):=by simp at h;omega
  refine⟨_,aW,?_⟩;refine aA (by rw[<-hp];exact irreducible (p:=p) byO byO) ?_;rintro v H3 ⟨rfl,b,rfl,hbb⟩;refine aC ?_;refine aT ?_;refine⟨Ext.app _ _,b,by simp[aM],?_⟩;rw[hbb];constructor
  ·intro hi
   exact⟨⟨Q,p⟩,.inr ⟨by simp;omega,by simp;omega,hc,hQ.symm,hi⟩,by simp;omega,by simp;omega,by show ch=((if p=0 then Q else 2:Nat):Int);rw[if_neg byO];omega⟩
  ·rintro⟨f,hf,h1,h2,h3⟩
   rcases hf with ⟨e0,_⟩|⟨_,_,_,_,hi⟩
   ·omega
   ·have:f.poly=p:=byO
    rw[<-this];exact hi
 ·have hcc:¬ (ch=2/\sz=(Q:Int)):=by
   rintro⟨h1,h2⟩;simp[h1,h2,hp]at h
  refine aC ?_;refine aT ?_;refine⟨Ext.app _ _,false,by simp[aM],?_⟩;simp only[ah₀,false_iff];rintro⟨f,hf,h1,h2,h3⟩;apply hcc;rcases hf with ⟨e0,_⟩|⟨e0,_,_,e4,_⟩
  ·omega
  ·have:f.poly=p:=byO
   rw[this,hQ]at e4;unfold FD.ch at h3;rw[if_neg e0]at h3;omega
end Go.Proofs.YtmnlgdpdgjbfgaaGreat
namespace Go.Proofs.YtmnlgdpdgjbfgaaGreat
open Go.Abs Go.RS
theorem gK{p:Int->Bool}{l:List Int}{i:Nat}(h:i<l.length):(l.take (i+1)).all p=((l.take i).all p&&p (l.getD i 0)):=by
 rw[List.take_add_one,bb₀ h,List.all_append,au₀,bb₀ h];simp
def inF(sz:Int)(l:List Int):Bool:=l.all fun x=>!(decide (x<0) || decide (sz<=x))
theorem lS{sz:Int}{l:List Int}:inF sz l=true↔∀x ∈ l,0<=x/\x<sz:=by
 unfold inF;rw[List.all_eq_true];constructor
 ·intro h x hx
  have:=h x hx;simp at this;omega
 ·intro h x hx
  have:=h x hx;simp;omega
namespace XGc
def xtr:=zzi @Int.cast_ofNat_Int (zzi @KW (zzi @ic (zzi @iZ (zzi @iY @fv.eq_1))))
end XGc
open XGc
theorem has{lo:Nat}{H:Heap}{ch sz po:Int}{v:Value}{l:List Int}(hb:po<=9223372036854775807)(hl:SlI H v l)(hll:l.length<=1000000000):Ev cp lo 108 [fv ch sz po,v] H (fun v H'=>Ext H H'/\∃b,v=.bool b/\(b=true↔(∃f,OkF ch sz po f)/\inF sz l=true)):=by
 have hl0:=hl;obtain⟨ad,c,rfl⟩:=hl.len;unfold fv;refine stG rfl rfl ?_;unfold Hn;simp only[kB,aB];refine aC ?_;refine aQ ?_;refine aA (valid (ch:=ch) (sz:=sz) (po:=po) hb) ?_;rintro v H1 ⟨hx1,b,rfl,hbv⟩;have g0:H1.get H.length=some _:=hx1.get aW;have hx1:=hx1.of_app;have hl1:=Heap.get_lt g0;(try simp only[aB]);refine aS ?_ ?_<;>intro h
 ·have hbf:b=false:=by simpa using h
  clear h;subst hbf;refine aC ?_;refine aT ?_;exact⟨hx1,false,rfl,by simp at hbv ⊢;intro f hf;exact absurd hf (hbv f)⟩
 have hbt:b=true:=by simpa using h
 clear h;subst hbt;have hv:=hbv.1 rfl;refine aC ?_;refine aa (fun i S H'=>H1=H'/\inF sz (l.take i)=true/\∃(z:Nat->Value),S=[z 0,z 1,.pointer (some ⟨H.length,0,none⟩),.bool false,z 4,z 5,.slice ad l.length c,.int .i64 (l.length:Nat),.int .i64 (i:Nat)]) l.length ?_ ?_ ?_ ?_
 ·exact⟨rfl,rfl,aR rfl⟩
 ·rintro i S H' hi ⟨rfl,-,z,rfl⟩
  exact⟨_,aW,by simp⟩
 ·rintro i S H' hi ⟨rfl,hin,z,rfl⟩
  obtain⟨b,o,sp,cap,xs,e,g,hat,hxl⟩:=hl0.els 0 byO;cases e;have g:=hx1.get g;have hati:=hat i hi;have hs:=gK (p:=fun x=>!(decide (x<0) || decide (sz<=x))) hi;clear hat;refine aC ?_;refine aS ?_ ?_<;>intro h
  ·have hno:¬ inF sz l=true:=by
    intro hin2;have:=lS.1 hin2 (l.getD i 0) (by rw[au₀,bb₀ hi];exact List.getElem_mem hi);simp at h;simp at this;omega
   clear h hs;refine aC ?_;refine aT ?_;exact⟨hx1,false,rfl,by simp[hno]⟩
  ·have hin2:inF sz (l.take (i+1))=true:=by
    unfold inF at hin ⊢;rw[hs,hin,h];rfl
   clear h hs;refine aC ?_;exact⟨by trivial,hin2,aR ncM⟩
 ·rintro S H' ⟨rfl,hin,z,rfl⟩
  rw[List.take_of_length_le (Nat.le_refl _)]at hin;refine aC ?_;refine aT ?_;exact⟨hx1,true,rfl,by simp only[true_iff];exact⟨hv,hin⟩⟩
theorem p3{b:Nat}(hb:b<2^63):IntKind.i64.wrap ((BitVec.ofInt IntKind.i64.bits (b:Int) &&& BitVec.ofInt IntKind.i64.bits 1).toNat:Int)=((b%2:Nat):Int):=by
 rw[show IntKind.i64.bits=64 from rfl,BitVec.toNat_and,BitVec.ofInt_natCast,show BitVec.ofInt 64 1=BitVec.ofNat 64 1 by rfl,BitVec.toNat_ofNat,BitVec.toNat_ofNat,Nat.mod_eq_of_lt byO];show IntKind.i64.wrap ((b &&& 1:Nat):Int)=_;rw[Nat.and_one_is_mod,eX byO byO]
theorem KZ(a b:Nat):cl a b=(if b%2=1 then a else 0) ^^^ cl (2*a) (b/2):=by
 have e:b=(b%2) ^^^ ((b/2) <<< 1):=by
  apply Nat.eq_of_testBit_eq;intro i;rw[Nat.testBit_xor,Nat.testBit_shiftLeft];cases i with
  | zero=>simp
  | succ i=>
   have:(b%2).testBit (i+1)=false:=Nat.testBit_lt_two_pow (by have:=Nat.mod_lt b (show 2>0 by omega);have:2^1<=2^(i+1):=Nat.pow_le_pow_right byO byO;omega);rw[this];simp[Nat.testBit_add_one]
 have e2:cl a ((b/2) <<< 1)=cl (2*a) (b/2):=by
  rw[<-fu,fD (b/2),<-jX,fu,Nat.shiftLeft_eq,ba₀]
 conv=>lhs;rw[e]
 rw[jO,e2];congr 1;split
 ·rename_i h;rw[h,ta]
 ·rename_i h;rw[show b%2=0 by omega,fX]
theorem dbl{P a:Nat}(hP:2<=P)(ha:a<2^P.log2):rm (2*a) P=(if 2^P.log2<=2*a then 2*a ^^^ P else 2*a)/\(if 2^P.log2<=2*a then 2*a ^^^ P else 2*a)<2^P.log2:=by
 have hP0:P≠0:=byO;split
 ·rename_i h
  have hlt:2*a ^^^ P<2^P.log2:=by
   have hl:(2*a).log2=P.log2:=ko h (by rw[Nat.pow_succ];omega);have h0:2*a≠0:=by have:0<2^P.log2:=Nat.pow_pos byO;omega
   have:=yI hP0 h0 byO;rw[hl,Nat.sub_self]at this;simpa using this
  refine⟨tC hP0 hlt (m:=1) ?_,hlt⟩;rw[ta,Nat.xor_comm,Nat.xor_assoc,Nat.xor_self,Nat.xor_zero]
 ·rename_i h
  exact⟨iF hP0 byO,byO⟩
theorem product{lo:Nat}{H:Heap}{f:FD}(hf:f.Ok){a b:Nat}(ha:a<f.q)(hb:b<f.q):Ev cp lo 162 [fvf f,.int .i64 a,.int .i64 b] H (fun v H'=>Ext H H'/\v=.int .i64 (eN f a b:Nat)):=by
 have h2:=hf.two;unfold fvf fv;refine stG rfl rfl ?_;unfold I8;simp only[kB,aB];refine aC ?_;refine aS ?_ ?_<;>intro h
 ·have hp:f.poly=0:=by simp at h;omega
  clear h;have hm:=uJ (a:=(a:Int)) (b:=(b:Int)) (A:=4096) (B:=4096) byO byO byO byO byO;have hmod:((a:Int)*(b:Int)).tmod (f.q:Int)=((a*b%f.q:Nat):Int):=by
   rw[<-Int.natCast_mul,Int.tmod_eq_emod_of_nonneg byO];rfl
  refine aC ?_;refine aT ?_;refine⟨Ext.app _ _,?_⟩;unfold eN;rw[if_pos hp];rfl
 have hp:f.poly≠0:=by simp at h;omega
 clear h;rcases hf with ⟨e,_⟩|⟨_,hP,hP12,hq,hi⟩
 ·exact absurd e hp
 replace hq:=hq.symm;have hpb:f.poly<2^13:=bc₀ (cX f.poly) (Nat.pow_le_pow_right byO byO);have hfm:eN f a b=rm (cl a b) f.poly:=by unfold eN;rw[if_neg hp]
 rw[hfm];clear hfm;generalize hG:H++[some [Value.int .i64 (FD.ch f:Nat),Value.int .i64 (f.q:Nat),Value.int .i64 (f.poly:Nat)]]=G at *;have g0:G.get H.length=some [Value.int .i64 (FD.ch f:Nat),Value.int .i64 (f.q:Nat),Value.int .i64 (f.poly:Nat)]:=by rw[<-hG];exact aK
 have hxG:Ext H G:=by rw[<-hG];exact Ext.app _ _
 clear hG;refine aC ?_;refine aY (fun m S H'=>∃(x y s:Nat) (z0:Value),x<f.q/\y<f.q/\s<f.q/\m=y/\G=H'/\s ^^^ rm (cl x y) f.poly=rm (cl a b) f.poly/\S=[z0,.int .i64 (x:Nat),.int .i64 (y:Nat),.pointer (some ⟨H.length,0,none⟩),.int .i64 0,.int .i64 (s:Nat)]) b ?_ ?_
 ·exact⟨a,b,0,_,ha,hb,byO,rfl,rfl,by rw[Nat.zero_xor],rfl⟩
 rintro m S H' ⟨x,y,s,z0,hx,hy,hs,rfl,rfl,hinv,rfl⟩;(try simp only[aB]);refine aS ?_ ?_<;>intro h
 ·have hm0:0<m:=by simpa using h
  clear h;have a1:=p3 (b:=m) byO;have a2:=lh m 1 .i64 (by decide);have a3:=kC (a:=x) (k:=1) byO byO;have a4:=iI (a:=s) (b:=x) byO byO;have a5:=iI (a:=x <<< 1) (b:=f.poly) (by rw[Nat.shiftLeft_eq];omega) byO;have e1:x <<< 1=2*x:=by rw[Nat.shiftLeft_eq];omega
  rw[e1]at a3 a5;have hd:=dbl hP (a:=x) (by rw[hq];exact hx);rw[hq]at hd;have hc2:=KZ x m;have i1:(Int.toNat 1)=1:=rfl;have hsx:s ^^^ x<f.q:=by rw[<-hq];exact Nat.xor_lt_two_pow (by rw[hq];exact hs) (by rw[hq];exact hx)
  clear e1;(try simp only[aB]);refine eI (fun S' H'=>G=H'/\∃(z0:Value),S'=[z0,.int .i64 (x:Nat),.int .i64 (m:Nat),.pointer (some ⟨H.length,0,none⟩),.int .i64 0,.int .i64 ((if m%2=1 then s ^^^ x else s:Nat):Int)]) ?_ ?_
  ·refine aS ?_ ?_<;>intro h
   ·have ho:m%2=1:=by simp at h;omega
    clear h;refine aC ?_;exact⟨by trivial,_,by rw[if_pos ho]⟩
   ·have ho:¬ m%2=1:=by simp at h;omega
    clear h;(try simp only[aB]);exact⟨by trivial,_,by rw[if_neg ho]⟩
  rintro S' H' ⟨rfl,z0,rfl⟩;generalize hsE:(if m%2=1 then s ^^^ x else s:Nat)=s';have hs':s'<f.q:=by rw[<-hsE];split<;>assumption
  refine aC ?_;refine eo (fun S' H'=>G=H'/\∃(z0:Value),S'=[z0,.int .i64 ((if f.q<=2*x then 2*x ^^^ f.poly else 2*x:Nat):Int),.int .i64 (m:Nat),.pointer (some ⟨H.length,0,none⟩),.int .i64 0,.int .i64 (s':Nat)]) ?_ ?_
  ·refine aS ?_ ?_<;>intro h
   ·have ho:f.q<=2*x:=by simp at h;omega
    clear h;refine aC ?_;exact⟨by trivial,_,by rw[if_pos ho]⟩
   ·have ho:¬ f.q<=2*x:=by simp at h;omega
    clear h;(try simp only[aB]);exact⟨by trivial,_,by rw[if_neg ho]⟩
  rintro S' H' ⟨rfl,z0,rfl⟩;obtain⟨hd1,hd2⟩:=hd;generalize (if f.q<=2*x then 2*x ^^^ f.poly else 2*x:Nat)=x' at *;refine aC ?_;simp only[ak];refine⟨m/2,byO,x',m/2,s',_,hd2,byO,hs',rfl,by trivial,?_,by first|rfl|(simp only[i1,a2];rfl)⟩;rw[<-hinv,hc2,ER hp,<-ud hp (2*x),hd1,<-hsE];split
  ·rw[iF (r:=x) hp (by rw[hq];exact hx),Nat.xor_assoc]
  ·rw[iF (r:=0) hp (Nat.pow_pos byO),Nat.zero_xor]
 ·have hm0:m=0:=by simp at h;omega
  clear h;rw[hm0,fX,iF hp (Nat.pow_pos byO),Nat.xor_zero]at hinv;refine aC ?_;refine aT ?_;exact⟨hxG,by rw[<-hinv];rfl⟩
end Go.Proofs.YtmnlgdpdgjbfgaaGreat
namespace Go.Proofs.YtmnlgdpdgjbfgaaGreat
open Go.Abs Go.RS
variable{H:Heap}{lo:Nat}
namespace XGd
def xtr:=zzi @Int.cast_ofNat_Int (zzi @KW (zzi @ic (zzi @iZ (zzi @iY (zzi @fv.eq_1 @fvf.eq_1)))))
end XGd
open XGd
theorem order{f:FD}(hf:f.Ok){a:El f}{n:Nat}(hn:@Ord (El f) hf.fd a n)(hn2:n<=f.q):Ev cp lo 192 [fvf f,.int .i64 (a.val:Nat)] H (fun v H'=>Ext H H'/\v=.int .i64 n):=by
 have h2:=hf.two
 letI:=hf.fd
 unfold fvf fv;refine stG rfl rfl ?_;unfold Ix;simp only[kB,aB];refine aC ?_;generalize hG:H++[some [Value.int .i64 (FD.ch f:Nat),Value.int .i64 (f.q:Nat),Value.int .i64 (f.poly:Nat)]]=G at *;have g0:G.get H.length=some [Value.int .i64 (FD.ch f:Nat),Value.int .i64 (f.q:Nat),Value.int .i64 (f.poly:Nat)]:=by rw[<-hG];exact aK
 have hxG:Ext H G:=by rw[<-hG];exact Ext.app _ _
 clear hG;refine aY (fun m S H'=>∃(k x:Nat) (z0 z6:Value),1<=k/\k<=n/\m=n-k/\(pw a k).val=x/\Ext H H'/\H'.get H.length=some [Value.int .i64 (FD.ch f:Nat),Value.int .i64 (f.q:Nat),Value.int .i64 (f.poly:Nat)]/\S=[z0,.int .i64 (a.val:Nat),.pointer (some ⟨H.length,0,none⟩),.int .i64 0,.int .i64 (k:Nat),.int .i64 (x:Nat),z6]) (n-1) ?_ ?_
 ·exact⟨1,a.val,_,_,byO,hn.1,rfl,by rw[oJ],hxG,g0,rfl⟩
 clear g0 hxG;rintro m S H1 ⟨k,x,z0,z6,hk1,hkn,rfl,hx,hx1,g0,rfl⟩;have hone:(1:El f).val=1:=rfl;have hxl:x<f.q:=by rw[<-hx];exact(pw a k).lt
 (try simp only[aB]);refine aS ?_ ?_<;>intro h
 ·have hne:x≠1:=by simp at h;omega
  clear h;have hlt:k<n:=by
   apply Decidable.byContradiction;intro hc;have:k=n:=byO;rw[this,hn.2.1,hone]at hx;exact hne hx.symm
  refine aC ?_;refine aQ ?_;refine aA (product hf hxl a.lt) ?_;rintro v H2 ⟨hx2,rfl⟩;have g0:=hx2.get g0;have hx2:=hx1.trans hx2;have hmul:eN f x a.val=(pw a (k+1)).val:=by rw[<-hx];rfl
  refine aC ?_;simp only[ak];exact⟨n-(k+1),byO,k+1,(pw a (k+1)).val,_,_,byO,byO,rfl,rfl,hx2,g0,by rw[<-hmul];simp only[ap₀,Int.natCast_one];rfl⟩
 ·have he:x=1:=by simp at h;omega
  clear h;have hkk:k=n:=by
   apply Decidable.byContradiction;intro hc;apply hn.2.2 k byO byO;apply El.ext;rw[hx,he];rfl
  refine aC ?_;refine aT ?_;exact⟨hx1,by rw[<-hkk];rfl⟩
structure Gn {f:FD}(hf:f.Ok)(g:El f):Prop where
 pos:1<=g.val
 ord:@Ord (El f) hf.fd g (f.q-1)
 min:∀x:El f,1<=x.val->x.val<g.val->¬ @Ord (El f) hf.fd x (f.q-1)
theorem OG{f:FD}(hf:f.Ok):∃g,Gn hf g:=by
 letI:=hf.fd
 obtain⟨g,hg0,hg⟩:=hf.num.cyclic;obtain⟨m,_,⟨x,h1,h2,h3⟩,hmin⟩:=least (P:=fun k=>∃x:El f,x.val=k/\1<=x.val/\Ord x (f.q-1)) g.val ⟨g,rfl,by
  have:g.val≠0:=fun e=>hg0 (El.ext e);omega,hg⟩
 exact⟨x,h2,h3,fun y hy hlt ho=>hmin y.val byO ⟨y,rfl,hy,ho⟩⟩
theorem Ab{f:FD}(hf:f.Ok){g:El f}(hg:Gn hf g):Ev cp lo 161 [fvf f] H (fun v H'=>Ext H H'/\v=.int .i64 (g.val:Nat)):=by
 have h2:=hf.two;have hgl:=g.lt;unfold fvf fv;refine stG rfl rfl ?_;unfold I7;simp only[kB,aB];refine aC ?_;generalize hG:H++[some [Value.int .i64 (FD.ch f:Nat),Value.int .i64 (f.q:Nat),Value.int .i64 (f.poly:Nat)]]=G at *;have g0:G.get H.length=some [Value.int .i64 (FD.ch f:Nat),Value.int .i64 (f.q:Nat),Value.int .i64 (f.poly:Nat)]:=by rw[<-hG];exact aK
 have hxG:Ext H G:=by rw[<-hG];exact Ext.app _ _
 clear hG;have hgp:=hg.pos;refine aY (fun m S H'=>∃(k:Nat) (z0 z4 z5:Value),1<=k/\k<=g.val/\m=g.val-k/\Ext H H'/\H'.get H.length=some [Value.int .i64 (FD.ch f:Nat),Value.int .i64 (f.q:Nat),Value.int .i64 (f.poly:Nat)]/\S=[z0,.pointer (some ⟨H.length,0,none⟩),.int .i64 0,.int .i64 (k:Nat),z4,z5]) (g.val-1) ?_ ?_
 ·exact⟨1,_,_,_,byO,byO,rfl,hxG,g0,rfl⟩
 clear g0 hxG;rintro m S H1 ⟨k,z0,z4,z5,hk1,hkn,rfl,hx1,g0,rfl⟩;obtain⟨n,hn,hnq⟩:∃n,@Ord (El f) hf.fd ⟨k,byO⟩ n/\n<=f.q-1:=by
  letI:=hf.fd
  refine hf.num.ord ⟨k,byO⟩ (fun e=>?_);have:k=0:=congrArg El.val e;omega
 have hnq2:n<=f.q-1:=hnq;(try simp only[aB]);refine aQ ?_;refine aN (order hf hn byO) ?_;rintro v H2 ⟨hx2,rfl⟩;have g0:=hx2.get g0;have hx2:=hx1.trans hx2;(try simp only[aB]);refine aS ?_ ?_<;>intro h
 ·have hne:n≠f.q-1:=by simp at h;omega
  clear h;have hlt:k<g.val:=by
   apply Decidable.byContradiction;intro hc;have hkg:(⟨k,byO⟩:El f)=g:=El.ext (by show k=g.val;omega);rw[hkg]at hn;have h1:=@iE (El f) hf.fd g n (f.q-1) hn hg.ord.2.1;have h3:=@iE (El f) hf.fd g (f.q-1) n hg.ord hn.2.1;exact hne (Nat.dvd_antisymm h1 h3)
  refine aC ?_;simp only[ak];exact⟨g.val-(k+1),byO,k+1,_,_,_,byO,byO,rfl,hx2,g0,ncM⟩
 ·have he:n=f.q-1:=by simp at h;omega
  clear h;have hkk:k=g.val:=by
   apply Decidable.byContradiction;intro hc;rw[he]at hn;exact hg.min ⟨k,byO⟩ hk1 (by show k<g.val;omega) hn
  refine aC ?_;refine aT ?_;exact⟨hx2,by rw[<-hkk];rfl⟩
theorem qk{f:FD}(hf:f.Ok):∃f',OkF (FD.ch f) f.q f.poly f':=⟨f,hf,rfl,rfl,rfl⟩
theorem pS{f:FD}(hf:f.Ok):(f.poly:Int)<=9223372036854775807:=by
 rcases hf with ⟨e,_⟩|⟨_,hP,hP12,hq,hi⟩
 ·omega
 ·have hpb:f.poly<2^13:=bc₀ (cX f.poly) (Nat.pow_le_pow_right byO byO)
  omega
theorem tV{f:FD}(hf:f.Ok){g:El f}(hg:Gn hf g):Ev cp lo 114 [fvf f] H (fun v H'=>Ext H H'/\v=.tuple #[.int .i64 (g.val:Nat),.int .i64 0]):=by
 unfold fvf fv;refine stG rfl rfl ?_;unfold Hu;simp only[kB,aB];refine aC ?_;refine aQ ?_;refine aA (has (ch:=FD.ch f) (sz:=f.q) (po:=f.poly) (l:=[]) (pS hf) (.inl ⟨rfl,rfl⟩) (by simp)) ?_;rintro v H1 ⟨hx1,b,rfl,hb⟩;have g0:H1.get H.length=some _:=hx1.get aW;have hx1:=hx1.of_app;have hbt:b=true:=hb.2 ⟨qk hf,rfl⟩;subst hbt;(try simp only[aB]);refine aS ?_ ?_<;>intro h
 ·cases h
 clear h;(try simp only[aB]);refine aQ ?_;refine aA (Ab hf hg) ?_;rintro v H2 ⟨hx2,rfl⟩;refine aC ?_;refine aT ?_;exact⟨hx1.trans hx2,rfl⟩
theorem Ft{q a b:Nat}(ha:a<q)(hb:b<q):inF q [(a:Int),(b:Int)]=true:=by
 rw[lS];intro x hx;simp at hx;rcases hx with rfl|rfl<;>omega
theorem KL{f:FD}(hf:f.Ok){a b:Nat}(ha:a<f.q)(hb:b<f.q):Ev cp lo 115 [fvf f,.int .i64 a,.int .i64 b] H (fun v H'=>Ext H H'/\v=.tuple #[.int .i64 (eN f a b:Nat),.int .i64 0]):=by
 unfold fvf fv;refine stG rfl rfl ?_;unfold Hv;simp only[kB,aB];refine aC ?_;refine aQ ?_;refine aA (has (ch:=FD.ch f) (sz:=f.q) (po:=f.poly) (l:=[(a:Int),(b:Int)]) (pS hf) (.inr ⟨_,0,none,_,_,rfl,bI,rfl,by simp,.inl rfl,by simp⟩) (by simp)) ?_;rintro v H1 ⟨hx1,bb,rfl,hbb⟩;have g0:H1.get H.length=some _:=hx1.get aW;have hx1:=hx1.of_app;have hbt:bb=true:=hbb.2 ⟨qk hf,Ft ha hb⟩;subst hbt;(try simp only[aB]);refine aS ?_ ?_<;>intro h
 ·cases h
 clear h;(try simp only[aB]);refine aQ ?_;refine aA (product hf ha hb) ?_;rintro v H2 ⟨hx2,rfl⟩;refine aC ?_;refine aT ?_;exact⟨hx1.trans hx2,rfl⟩
def va(f:FD)(a b:Nat):Nat:=if f.poly=0 then(a+f.q-b)%f.q else a ^^^ b
theorem yy{f:FD}(hf:f.Ok){a b:Nat}(ha:a<f.q)(hb:b<f.q):va f a b=ek f a (qP f b):=by
 unfold va ek qP;split
 ·rw[Nat.add_mod_mod,show a+(f.q-b)=a+f.q-b by omega]
 ·rfl
theorem HT{f:FD}{a b:Nat}(h2:2<=f.q)(ha:a<f.q)(hb:b<f.q):((a:Int)-b+f.q).tmod (f.q:Int)=(((a+f.q-b)%f.q:Nat):Int):=by
 rw[Int.tmod_eq_emod_of_nonneg byO,show(a:Int)-b+f.q=((a+f.q-b:Nat):Int) by omega];rfl
open Go.Abs Go.RS
section
variable {f:FD}[OkC f]
theorem kN{g:El f}(h:Gn (OkC.ok (f:=f)) g):g≠0:=fun e=>by
 have h1:=h.pos;rw[e,lJ]at h1;omega
theorem dv{g:El f}(h:Gn (OkC.ok (f:=f)) g):Ord g (f.q-1):=h.ord
theorem qle:2<=f.q/\f.q<=4096:=(OkC.ok (f:=f)).two
structure ArH (H:Heap)(g:El f)(be bl:Nat):Prop where
 ex:∃E:List Int,H.get be=some (bN E)/\E.length=f.q-1/\∀n,n<f.q-1->E.getD n 0=((pw g n).val:Nat)
 lg:∃L:List Int,H.get bl=some (bN L)/\L.length=f.q/\∀n,n<f.q-1->L.getD (pw g n).val 0=(n:Nat)
theorem ArH.mono{H H':Heap}{g:El f}{be bl:Nat}(h:ArH H g be bl)(e:Ext H H'):ArH H' g be bl:=by
 obtain⟨⟨E,a,b⟩,⟨L,c,d⟩⟩:=h;exact⟨⟨E,e.get a,b⟩,⟨L,e.get c,d⟩⟩
theorem ArH.lt{H:Heap}{g:El f}{be bl:Nat}(h:ArH H g be bl):be<H.length/\bl<H.length:=by
 obtain⟨⟨E,a,b⟩,⟨L,c,d⟩⟩:=h;exact⟨Heap.get_lt a,Heap.get_lt c⟩
theorem ArH.keep{b:Nat}{H H':Heap}{g:El f}{be bl:Nat}(h:ArH H g be bl)(e:Keep b H H')(h1:be≠b)(h2:bl≠b):ArH H' g be bl:=by
 obtain⟨⟨E,a,b⟩,⟨L,c,d⟩⟩:=h;exact⟨⟨E,e.get a h1,b⟩,⟨L,e.get c h2,d⟩⟩
end
def arC(f:FD)(be bl:Nat):List Value:=[.int .i64 (FD.ch f:Nat),.int .i64 (f.q:Nat),.slice (some ⟨be,0,none⟩) (f.q-1) (f.q-1),.slice (some ⟨bl,0,none⟩) f.q f.q]
def arV(f:FD)(be bl:Nat):Value:=.agg #[.int .i64 (FD.ch f:Nat),.int .i64 (f.q:Nat),.slice (some ⟨be,0,none⟩) (f.q-1) (f.q-1),.slice (some ⟨bl,0,none⟩) f.q f.q]
theorem pq{f:FD}(hf:f.Ok):FD.ch f=2↔f.poly≠0:=by
 unfold FD.ch;rcases hf with ⟨e,h1,_⟩|⟨e,_⟩
 ·rw[if_pos e];simp[e];omega
 ·rw[if_neg e];simp[e]
theorem kg{l:List Int}{i:Nat}{v:Int}(h:i<l.length):(l.set i v).getD i 0=v:=by
 rw[au₀,List.getElem?_set_self h];rfl
theorem nK{l:List Int}{i j:Nat}{v:Int}(h:i≠j):(l.set i v).getD j 0=l.getD j 0:=by
 rw[au₀,List.getElem?_set_ne h,<-au₀]
end Go.Proofs.YtmnlgdpdgjbfgaaGreat
