/- The program's test for fields: what it answers. Fields in the program: the test, products, orders, the generator. Fields in the program: elements, products, orders, the generator. Fields in the program: orders, the generator, Mul and Sub. The tables of a field in memory. -/
import Derived.Test.YtmnlgdpdgjbfgaaGreatD9
import Derived.Test.YtmnlgdpdgjbfgaaGreatD10
import Derived.Test.YtmnlgdpdgjbfgaaGreatD11
set_option linter.unusedVariables false
set_option linter.unusedSimpArgs false
set_option linter.unusedSectionVars false
namespace Go.Proofs.YtmnlgdpdgjbfgaaGreat
open Go.Abs Go.RS
set_option linter.unusedSimpArgs false
set_option linter.unusedVariables false
set_option maxRecDepth 20000
theorem mul_bd{a b A B:Int}(h1:-A≤a)(h2:a≤A)(h3:0≤b)(h4:b≤B)(hA:0≤A):-(A*B)≤a*b∧a*b≤A*B:=by
 have e1:a*b≤A*b:=Int.mul_le_mul_of_nonneg_right h2 h3
 have e2:A*b≤A*B:=Int.mul_le_mul_of_nonneg_left h4 hA
 have e3:-A*b≤a*b:=Int.mul_le_mul_of_nonneg_right h1 h3
 rw[Int.neg_mul]at e3
 omega
theorem ls_idxS{H:Heap}{s:ByteArray}{k:IntKind}{i:Int}{b:UInt8}(h0:0≤i)(hs:s[i.toNat]?=some b):lsem .idxS [.string s,.int k i] H=some (.int .u8 b.toNat):=by
 simp[lsem,h0,hs]
def lenN(n:Nat):Nat:=if n=0 then 0 else n.log2+1
theorem lenN_div{x k:Nat}(h:2^k≤x):lenN x=k+lenN (x/2^k):=by
 have hp:0<2^k:=Nat.pow_pos (by omega)
 have hy:x/2^k≠0:=by
  have:=(Nat.le_div_iff_mul_le hp).2 (show 1*2^k≤x by omega)
  omega
 have hx:x≠0:=by omega
 unfold lenN
 rw[if_neg hx,if_neg hy]
 have h1:=log_le hy
 have h2:=lt_log (x/2^k)
 have h3:2^((x/2^k).log2+k)≤x:=by
  rw[Nat.pow_add]
  exact Nat.le_trans (Nat.mul_le_mul_right _ h1) (Nat.div_mul_le_self x _)
 have h4:x<2^((x/2^k).log2+k+1):=by
  have:x<(x/2^k+1)*2^k:=Nat.lt_mul_of_div_lt (by omega) hp
  have h5:(x/2^k+1)*2^k≤2^((x/2^k).log2+1)*2^k:=Nat.mul_le_mul_right _ (by omega)
  rw[←Nat.pow_add,show(x/2^k).log2+1+k=(x/2^k).log2+k+1 by omega]at h5
  omega
 rw[log_of h3 h4]
 omega
theorem lenN_le{n k:Nat}(h:n<2^k):lenN n≤k:=by
 unfold lenN
 split
 ·omega
 ·rename_i hn
  have:=Nat.lt_of_le_of_lt (log_le hn) h
  have:=(Nat.pow_lt_pow_iff_right (by omega:1<2)).1 this
  omega
set_option maxRecDepth 100000 in
theorem lit_ok:((List.range 256).all fun i=>match lit0[i]? with|some b=>b.toNat==lenN i|none=>false)=true:=by kernel_rfl
theorem lit_at{i:Nat}(h:i<256):∃b,lit0[i]?=some b∧b.toNat=lenN i:=by
 have:=List.all_eq_true.1 lit_ok i (by simpa using h)
 split at this
 ·rename_i b hb;exact⟨b,hb,by simpa using this⟩
 ·cases this
theorem shr_nat(n:Nat)(k:Nat)(ik:IntKind)(hk:k≤ik.bits):(n:Int).fdiv (2^(min k ik.bits))=((n/2^k:Nat):Int):=by
 rw[Nat.min_eq_left hk,Int.fdiv_eq_ediv_of_nonneg _ (Int.le_of_lt (Int.pow_pos (by omega)))]
 simp
theorem xSGa{cp:FuncId→Option CF}{lo:Nat}{l:List (Nat×E)}{chk:List E}{Q:Post}{S:List Value}{H:Heap}{vs:List (Nat×Value)}{S':List Value}(k:Q .normal S' H)(h:evSets S H l=some vs:=by simp(disch:=first|omega|(simp only[lenB];omega))only[evB,Int.cast_ofNat_Int, *];rfl)(hc:evChk S H chk=true:=by simp(disch:=first|omega|(simp only[lenB];omega))only[evB,Int.cast_ofNat_Int, *])(hS:setAll S vs=S':=by simp(disch:=first|omega|(simp only[lenB];omega))only[evB,Int.cast_ofNat_Int, *];rfl):wpS cp lo (.sets l chk) Q S H:=aw_sets h hc hS k
theorem xHGa{cp:FuncId→Option CF}{lo:Nat}{l:List (Nat×E)}{chk:List E}{Q:Post}{S:List Value}{H:Heap}{vs:List (Nat×Value)}{dst:Option Nat}{o:HOp}{a:E}{xs:List Value}(k:wpH cp lo o xs H fun v H'=>Q .normal (setD (setAll S vs) dst v) H')(h:evSets S H l=some vs:=by simp(disch:=first|omega|(simp only[lenB];omega))only[evB,Int.cast_ofNat_Int, *];rfl)(hc:evChk S H chk=true:=by simp(disch:=first|omega|(simp only[lenB];omega))only[evB,Int.cast_ofNat_Int, *])(ha:ev S H a=some xs:=by simp(disch:=first|omega|(simp only[lenB];omega))only[evB,Int.cast_ofNat_Int, *];rfl):wpS cp lo (.hv l chk [] dst o a) Q S H:=aw_hv h hc ha k
theorem xOGa{cp:FuncId→Option CF}{lo:Nat}{l:List (Nat×E)}{chk:List E}{Q:Post}{S:List Value}{H:Heap}{vs:List (Nat×Value)}{dst:Option Nat}{o:HOp}{a:E}{xs:List Value}{S':List Value}{H':Heap}{v:Value}(hcall:o.isCall=false)(k:Q .normal S' H')(h:evSets S H l=some vs:=by simp(disch:=first|omega|(simp only[lenB];omega))only[evB,Int.cast_ofNat_Int, *];rfl)(hc:evChk S H chk=true:=by simp(disch:=first|omega|(simp only[lenB];omega))only[evB,Int.cast_ofNat_Int, *])(ha:ev S H a=some xs:=by simp(disch:=first|omega|(simp only[lenB];omega))only[evB,Int.cast_ofNat_Int, *];rfl)(ho:hsem0 lo o xs H=some (v,H'):=by simp(disch:=first|omega|(simp only[lenB];omega))only[evB,Int.cast_ofNat_Int, *];rfl)(hS:setD (setAll S vs) dst v=S':=by simp(disch:=first|omega|(simp only[lenB];omega))only[evB,Int.cast_ofNat_Int, *];rfl):wpS cp lo (.hv l chk [] dst o a) Q S H:=aw_op hcall h hc ha ho hS k
theorem xCGa{cp:FuncId→Option CF}{lo:Nat}{c:E}{a b:Stm}{Q:Post}{S:List Value}{H:Heap}{t:Bool}(k1:t=true→wpS cp lo a Q S H)(k2:t=false→wpS cp lo b Q S H)(h:ev1 S H c=some (.bool t):=by simp(disch:=first|omega|(simp only[lenB];omega))only[evB,Int.cast_ofNat_Int, *];rfl):wpS cp lo (.cond c a b) Q S H:=aw_cond h k1 k2
theorem xRGa{cf:CF}{R:Value→Heap→Prop}{S:List Value}{H:Heap}{vs:List Value}(k:R (resultOf vs) H)(h:evList S H cf.res=some vs:=by simp(disch:=first|omega|(simp only[lenB];omega))only[evB,Int.cast_ofNat_Int, *];rfl):bodyQ cf R .ret S H:=body_ret h k
theorem len64{lo:Nat}{H:Heap}{n:Nat}(hn:n<2^64):Ev cp lo 204 [.int .u64 n] H (fun v H'=>H'=H∧v=.int .i64 (lenN n:Nat)):=by
 refine st204 ?_;unfold bd204 cf204;simp only[kB,ctlB]
 repeat' ((first|refine xSGa ?_|refine xOGa rfl ?_);(try simp only[ctlB]))
 have s32:=shr_nat n 32 .u64 (by decide)
 refine aw_mid (fun S' H'=>H=H'∧∃x s:Nat,x<2^32∧s≤32∧lenN n=s+lenN x∧S'=[.int .u64 x,.int .i64 s]) ?_ ?_
 ·refine xCGa (fun h=>?_) (fun h=>?_)
  ·have hc:4294967296≤n:=by simp at h;omega
   clear h
   (try simp only[ctlB])
   repeat' ((first|refine xSGa ?_|refine xOGa rfl ?_);(try simp only[ctlB]))
   exact⟨by trivial,n/2^32,32,by omega,by omega,lenN_div (by omega),by simp only[show Int.toNat 32=32 from rfl,s32];rfl⟩
  ·have hc:n<4294967296:=by simp at h;omega
   clear h
   (try simp only[ctlB])
   exact⟨by trivial,n,0,by omega,by omega,by omega,rfl⟩
 rintro S' H' ⟨rfl,x,s,hx,hs,he,rfl⟩
 (try simp only[ctlB])
 have s16:=shr_nat x 16 .u64 (by decide)
 refine aw_mid (fun S' H'=>H=H'∧∃x s:Nat,x<2^16∧s≤48∧lenN n=s+lenN x∧S'=[.int .u64 x,.int .i64 s]) ?_ ?_
 ·refine xCGa (fun h=>?_) (fun h=>?_)
  ·have hc:65536≤x:=by simp at h;omega
   clear h
   (try simp only[ctlB])
   repeat' ((first|refine xSGa ?_|refine xOGa rfl ?_);(try simp only[ctlB]))
   exact⟨by trivial,x/2^16,s+16,by omega,by omega,by rw[he,lenN_div (k:=16) (x:=x) (by omega)];omega,by simp only[show Int.toNat 16=16 from rfl,s16,Int.natCast_add];rfl⟩
  ·have hc:x<65536:=by simp at h;omega
   clear h
   (try simp only[ctlB])
   exact⟨by trivial,x,s,by omega,by omega,by omega,rfl⟩
 clear s32 s16 hx hs he
 rintro S' H' ⟨rfl,x,s,hx,hs,he,rfl⟩
 (try simp only[ctlB])
 have s8:=shr_nat x 8 .u64 (by decide)
 refine aw_mid (fun S' H'=>H=H'∧∃x s:Nat,x<2^8∧s≤56∧lenN n=s+lenN x∧S'=[.int .u64 x,.int .i64 s]) ?_ ?_
 ·refine xCGa (fun h=>?_) (fun h=>?_)
  ·have hc:256≤x:=by simp at h;omega
   clear h
   (try simp only[ctlB])
   repeat' ((first|refine xSGa ?_|refine xOGa rfl ?_);(try simp only[ctlB]))
   exact⟨by trivial,x/2^8,s+8,by omega,by omega,by rw[he,lenN_div (k:=8) (x:=x) (by omega)];omega,by simp only[show Int.toNat 8=8 from rfl,s8,Int.natCast_add];rfl⟩
  ·have hc:x<256:=by simp at h;omega
   clear h
   (try simp only[ctlB])
   exact⟨by trivial,x,s,by omega,by omega,by omega,rfl⟩
 clear s8 hx hs he
 rintro S' H' ⟨rfl,x,s,hx,hs,he,rfl⟩
 obtain⟨b,hb,hbl⟩:=lit_at (show x<256 by omega)
 have hbl2:=lenN_le hx
 have hb2:lit0[(x:Int).toNat]?=some b:=hb
 have hidx:=ls_idxS (H:=H) (k:=.u8) (i:=(x:Int)) (by omega) hb2
 clear hb hb2
 (try simp only[ctlB])
 repeat' ((first|refine xSGa ?_|refine xOGa rfl ?_);(try simp only[ctlB]))
 refine xRGa ?_
 refine⟨rfl,?_⟩
 rw[he,←hbl]
 rfl
theorem blen{lo:Nat}{H:Heap}{n:Nat}(hn:n<2^64):Ev cp lo 189 [.int .u64 n] H (fun v H'=>H'=H∧v=.int .i64 (lenN n:Nat)):=by
 refine st189 ?_;unfold bd189 cf189;simp only[kB,ctlB]
 repeat' ((first|refine xSGa ?_|refine xOGa rfl ?_);(try simp only[ctlB]))
 refine xCGa (fun h=>?_) (fun h=>?_)
 ·cases h
 clear h
 (try simp only[ctlB])
 refine xHGa ?_
 refine wpH_call0 (len64 hn) ?_
 rintro v H1 ⟨rfl,rfl⟩
 (try simp only[ctlB])
 repeat' ((first|refine xSGa ?_|refine xOGa rfl ?_);(try simp only[ctlB]))
 refine xRGa ?_
 exact⟨rfl,rfl⟩
theorem degree{lo:Nat}{H:Heap}{n:Nat}(hn:n<2^63):Ev cp lo 149 [.int .i64 n] H (fun v H'=>H'=H∧v=.int .i64 ((lenN n:Nat)-1)):=by
 have hl:=lenN_le hn
 refine st149 ?_;unfold bd149 cf149;simp only[kB,ctlB]
 repeat' ((first|refine xSGa ?_|refine xOGa rfl ?_);(try simp only[ctlB]))
 refine xHGa ?_
 refine wpH_call0 (blen (n:=n) (by omega)) ?_
 rintro v H1 ⟨rfl,rfl⟩
 (try simp only[ctlB])
 repeat' ((first|refine xSGa ?_|refine xOGa rfl ?_);(try simp only[ctlB]))
 refine xRGa ?_
 exact⟨rfl,rfl⟩
def PrN(n:Nat):Prop:=∀d,2≤d→d*d≤n→n%d≠0
theorem prN_iff{n:Nat}(h:2≤n):PrN n↔Pr n:=by
 constructor
 ·intro hp
  refine⟨h,fun d hd hlt hdvd=>?_⟩
  obtain⟨e,he⟩:=hdvd
  have he2:2≤e:=by
   rcases Nat.lt_or_ge e 2 with h1|h1
   ·exfalso
    have:e=0∨e=1:=by omega
    rcases this with rfl|rfl
    ·simp at he;omega
    ·simp at he;omega
   ·exact h1
  rcases Nat.le_total d e with h1|h1
  ·exact hp d hd (by rw[he];exact Nat.mul_le_mul_left d h1) (by rw[he];exact Nat.mul_mod_right d e)
  ·exact hp e he2 (by rw[he];exact Nat.mul_le_mul_right e h1) (by rw[he];exact Nat.mul_mod_left d e)
 ·intro hp d hd hle hmod
  have:d*2≤d*d:=Nat.mul_le_mul_left d hd
  exact hp.2 d hd (by omega) (Nat.dvd_of_mod_eq_zero hmod)
theorem prime{lo:Nat}{H:Heap}{n:Nat}(hn:n≤4096):Ev cp lo 148 [.int .i64 n] H (fun v H'=>H'=H∧∃b,v=.bool b∧(b=true↔PrN n)):=by
 refine st148 ?_;unfold bd148 cf148;simp only[kB,ctlB]
 repeat' ((first|refine xSGa ?_|refine xOGa rfl ?_);(try simp only[ctlB]))
 refine aw_loop' (fun m S H'=>∃(d:Nat),2≤d∧d≤n+2∧m=n+3-d∧H=H'∧(∀e,2≤e→e<d→e*e≤n→n%e≠0)∧S=[.int .i64 n,.bool false,.int .i64 d]) (n+1) ?_ ?_
 ·exact⟨2,by omega,by omega,by omega,rfl,fun e h1 h2=>by omega,rfl⟩
 rintro m S H' ⟨d,h2,hle,rfl,rfl,hno,rfl⟩
 have hm:=mul_bd (a:=(d:Int)) (b:=(d:Int)) (A:=5000) (B:=5000) (by omega) (by omega) (by omega) (by omega) (by omega)
 (try simp only[ctlB])
 refine xCGa (fun h=>?_) (fun h=>?_)
 ·have hc:d*d≤n:=by simp at h;omega
  clear h
  have hdn:d≤n:=Nat.le_trans (Nat.le_mul_of_pos_left d (by omega)) hc
  have hmod:(n:Int).tmod (d:Int)=((n%d:Nat):Int):=by rw[Int.tmod_eq_emod_of_nonneg (by omega)];rfl
  (try simp only[ctlB])
  refine xCGa (fun h=>?_) (fun h=>?_)
  ·have hz:n%d=0:=by simp at h;omega
   clear h hmod
   (try simp only[ctlB])
   repeat' ((first|refine xSGa ?_|refine xOGa rfl ?_);(try simp only[ctlB]))
   refine xRGa ?_
   exact⟨rfl,false,rfl,by simp;exact fun hp=>hp d h2 hc hz⟩
  ·have hz:n%d≠0:=by simp at h;omega
   clear h hmod
   (try simp only[ctlB])
   repeat' ((first|refine xSGa ?_|refine xOGa rfl ?_);(try simp only[ctlB]))
   simp only[loopQ_n]
   refine⟨n+3-(d+1),by omega,d+1,by omega,by omega,rfl,by trivial,fun e h1 h3=>?_,(by first|rfl|(simp only[Int.natCast_add,Int.natCast_one];rfl)|simp only[Int.natCast_add,Int.natCast_one])⟩
   by_cases e2:e=d
   ·subst e2;exact fun _=>hz
   ·exact hno e h1 (by omega)
 ·have hc:¬ d*d≤n:=by simp at h;omega
  clear h
  (try simp only[ctlB])
  repeat' ((first|refine xSGa ?_|refine xOGa rfl ?_);(try simp only[ctlB]))
  refine xRGa ?_
  refine⟨rfl,true,rfl,?_⟩
  simp only[true_iff]
  intro e h1 h3
  refine hno e h1 ?_ h3
  apply Decidable.byContradiction
  intro hge
  exact hc (Nat.le_trans (Nat.mul_le_mul (show d≤e by omega) (show d≤e by omega)) h3)
theorem lenN_pos{n:Nat}(h:n≠0):lenN n=n.log2+1:=by unfold lenN;rw[if_neg h]
theorem lenN_0:lenN 0=0:=rfl
theorem red_lt{p q:Nat}(hq:q≠0)(hp:p≠0)(hle:q.log2≤p.log2):p ^^^ q <<< (p.log2-q.log2)<2^p.log2:=by
 have hp2:(2:Nat)^(p.log2-q.log2)≠0:=Nat.pos_iff_ne_zero.1 (Nat.pow_pos (by omega))
 have hs:(q <<< (p.log2-q.log2)).log2=p.log2:=by
  rw[←cl_pow,cl_log hq hp2,log_of (Nat.le_refl _) (Nat.pow_lt_pow_right (by omega) (by omega))];omega
 have hs0:q <<< (p.log2-q.log2)≠0:=by rw[←cl_pow];exact cl_ne_zero hq hp2
 refine Nat.lt_pow_two_of_testBit _ fun i hi=>?_
 rw[Nat.testBit_xor]
 by_cases e:i=p.log2
 ·have:=log_bit hs0
  rw[hs]at this
  rw[e,log_bit hp,this];rfl
 ·have h1:p.testBit i=false:=bt_dg (lt_log p) i (by omega)
  have h2:(q <<< (p.log2-q.log2)).testBit i=false:=bt_dg (lt_log (q <<< (p.log2-q.log2))) i (by omega)
  rw[h1,h2];rfl
theorem xor_int{a b:Nat}(ha:a<2^63)(hb:b<2^63):IntKind.i64.wrap ((BitVec.ofInt IntKind.i64.bits (a:Int) ^^^ BitVec.ofInt IntKind.i64.bits (b:Int)).toNat:Int)=((a ^^^ b:Nat):Int):=by
 rw[show IntKind.i64.bits=64 from rfl,BitVec.ofInt_natCast,BitVec.ofInt_natCast,BitVec.toNat_xor,BitVec.toNat_ofNat,BitVec.toNat_ofNat,Nat.mod_eq_of_lt (by omega),Nat.mod_eq_of_lt (by omega)]
 have:a ^^^ b<2^63:=Nat.xor_lt_two_pow ha hb
 rw[wrap_i64 (by omega) (by omega)]
theorem shl_int{a k:Nat}(h:a*2^k<2^63)(hk:k≤62):IntKind.i64.wrap ((a:Int)*2^(min k IntKind.i64.bits))=((a <<< k:Nat):Int):=by
 rw[show IntKind.i64.bits=64 from rfl,Nat.min_eq_left (by omega),Nat.shiftLeft_eq]
 have e:(a:Int)*2^k=((a*2^k:Nat):Int):=by simp
 rw[e,wrap_i64 (by omega) (by omega)]
theorem shl_lt{q a b:Nat}(h:q<2^b):q <<< a<2^(b+a):=by
 rw[Nat.shiftLeft_eq,Nat.pow_add]
 exact Nat.mul_lt_mul_of_pos_right h (Nat.pow_pos (by omega))
theorem remainder{lo:Nat}{H:Heap}{p q:Nat}(hp:p<2^62)(hq:q<2^62)(hq0:q≠0):Ev cp lo 190 [.int .i64 p,.int .i64 q] H (fun v H'=>H'=H∧v=.int .i64 (rm p q:Nat)):=by
 have hlq:=lenN_pos hq0
 have hlq2:=lenN_le hq
 refine st190 ?_;unfold bd190 cf190;simp only[kB,ctlB]
 repeat' ((first|refine xSGa ?_|refine xOGa rfl ?_);(try simp only[ctlB]))
 refine aw_loop' (fun m S H'=>∃(x:Nat) (z3 z4 z5 z6 z7 z8:Value),x<2^62∧m=x∧H=H'∧rm x q=rm p q∧S=[.int .i64 (x:Nat),.int .i64 (q:Nat),.int .i64 0,z3,z4,z5,z6,z7,z8]) p ?_ ?_
 ·exact⟨p,_,_,_,_,_,_,hp,rfl,rfl,rfl,rfl⟩
 rintro m S H' ⟨x,z3,z4,z5,z6,z7,z8,hx,rfl,rfl,hrm,rfl⟩
 have hlx:=lenN_le hx
 (try simp only[ctlB])
 refine xHGa ?_
 refine wpH_call0 (degree (n:=m) (by omega)) ?_
 rintro v H1 ⟨rfl,rfl⟩
 (try simp only[ctlB])
 refine xHGa ?_
 refine wpH_call0 (degree (n:=q) (by omega)) ?_
 rintro v H2 ⟨rfl,rfl⟩
 (try simp only[ctlB])
 refine xCGa (fun h=>?_) (fun h=>?_)
 ·have hc:lenN q≤lenN m:=by simp at h;omega
  clear h
  have hm0:m≠0:=by rintro rfl;rw[lenN_0]at hc;omega
  have hlm:=lenN_pos hm0
  have hred:=red_lt hq0 hm0 (by omega)
  have hml:=log_le hm0
  have e1:((lenN m:Nat):Int)-1-((lenN q:Nat)-1)=((m.log2-q.log2:Nat):Int):=by omega
  have hsl:q <<< (m.log2-q.log2)<2^(q.log2+1+(m.log2-q.log2)):=shl_lt (lt_log q)
  have hpw:2^(q.log2+1+(m.log2-q.log2))≤2^62:=Nat.pow_le_pow_right (by omega) (by omega)
  have hsl2:=hsl
  rw[Nat.shiftLeft_eq]at hsl2
  have e2:=shl_int (a:=q) (k:=m.log2-q.log2) (by omega) (by omega)
  have e3:=xor_int (a:=m) (b:=q <<< (m.log2-q.log2)) (by omega) (by omega)
  (try simp only[ctlB])
  refine xHGa ?_
  refine wpH_call0 (degree (n:=m) (by omega)) ?_
  rintro v H1 ⟨rfl,rfl⟩
  (try simp only[ctlB])
  refine xHGa ?_
  refine wpH_call0 (degree (n:=q) (by omega)) ?_
  rintro v H2 ⟨rfl,rfl⟩
  clear hlm hlq
  (try simp only[ctlB])
  repeat' ((first|refine xSGa ?_|refine xOGa rfl ?_);(try simp only[ctlB]))
  simp only[loopQ_n]
  exact⟨m ^^^ q <<< (m.log2-q.log2),by omega,_,_,_,_,_,_,_,by omega,rfl,by trivial,by rw[←hrm,←cl_pow,rm_add hq0],rfl⟩
 ·have hc:lenN m<lenN q:=by simp at h;omega
  clear h
  have hmr:rm m q=m:=by
   apply rm_self hq0
   by_cases hm0:m=0
   ·rw[hm0];exact Nat.pow_pos (by omega)
   ·rw[lenN_pos hm0]at hc
    exact Nat.lt_of_lt_of_le (lt_log m) (Nat.pow_le_pow_right (by omega) (by omega))
  rw[hmr]at hrm
  (try simp only[ctlB])
  repeat' ((first|refine xSGa ?_|refine xOGa rfl ?_);(try simp only[ctlB]))
  refine xRGa ?_
  exact⟨rfl,by rw[←hrm];rfl⟩
theorem rm_zero{p t:Nat}(ht:t≠0):rm p t=0↔∃m,p=cl t m:=by
 constructor
 ·intro h
  obtain⟨m,hm⟩:=rm_eq ht p
  rw[h,Nat.xor_zero]at hm
  exact⟨m,hm⟩
 ·rintro⟨m,rfl⟩
  exact rm_of ht (Nat.pow_pos (by omega)) (m:=m) (by rw[Nat.xor_zero])
theorem log_mono{a b:Nat}(h:a≤b)(ha:a≠0):a.log2≤b.log2:=by
 have h1:=log_le ha
 have h2:=lt_log b
 have:2^a.log2<2^(b.log2+1):=by omega
 have:=(Nat.pow_lt_pow_iff_right (by omega:1<2)).1 this
 omega
theorem irreducible{lo:Nat}{H:Heap}{p:Nat}(hp:p<2^62)(h2:2≤p):Ev cp lo 150 [.int .i64 p] H (fun v H'=>H'=H∧∃b,v=.bool b∧(b=true↔Irr p)):=by
 have hlp:=lenN_pos (n:=p) (by omega)
 have hlp2:=lenN_le hp
 refine st150 ?_;unfold bd150 cf150;simp only[kB,ctlB]
 repeat' ((first|refine xSGa ?_|refine xOGa rfl ?_);(try simp only[ctlB]))
 refine aw_loop' (fun m S H'=>∃(q:Nat) (z3 z4 z5 z6:Value),2≤q∧q≤p+1∧m=p+2-q∧H=H'∧(∀t,2≤t→t<q→2*t.log2≤p.log2→¬ ∃m,p=cl t m)∧S=[.int .i64 (p:Nat),.bool false,.int .i64 (q:Nat),z3,z4,z5,z6]) p ?_ ?_
 ·exact⟨2,_,_,_,_,by omega,by omega,by omega,rfl,fun t h1 h2=>by omega,rfl⟩
 rintro m S H' ⟨q,z3,z4,z5,z6,hq2,hqp,rfl,rfl,hno,rfl⟩
 have hq0:q≠0:=by omega
 have hlq:=lenN_pos hq0
 have hlq2:=lenN_le (show q<2^63 by omega)
 (try simp only[ctlB])
 refine xHGa ?_
 refine wpH_call0 (degree (n:=q) (by omega)) ?_
 rintro v H1 ⟨rfl,rfl⟩
 (try simp only[ctlB])
 refine xHGa ?_
 refine wpH_call0 (degree (n:=p) (by omega)) ?_
 rintro v H2 ⟨rfl,rfl⟩
 clear hlq2 hlp2
 have hlq':lenN q≤q.log2+1∧q.log2+1≤lenN q:=by omega
 have hlp':lenN p≤p.log2+1∧p.log2+1≤lenN p:=by omega
 have hlq3:=lenN_le (show q<2^63 by omega)
 have hlp3:=lenN_le (show p<2^63 by omega)
 clear hlq hlp
 (try simp only[ctlB])
 refine xCGa (fun h=>?_) (fun h=>?_)
 ·have hc:2*q.log2≤p.log2:=by simp at h;omega
  clear h
  have hlt:q<p:=by
   have h1:=log_pos hq2
   have h3:=lt_log q
   have h4:2^(q.log2+1)≤2^p.log2:=Nat.pow_le_pow_right (by omega) (by omega)
   have h5:=log_le (show p≠0 by omega)
   omega
  (try simp only[ctlB])
  refine xHGa ?_
  refine wpH_call0 (remainder (p:=p) (q:=q) hp (by omega) hq0) ?_
  rintro v H1 ⟨rfl,rfl⟩
  have hz:=rm_zero (p:=p) hq0
  (try simp only[ctlB])
  refine xCGa (fun h=>?_) (fun h=>?_)
  ·have hr:rm p q=0:=by simp at h;omega
   clear h
   (try simp only[ctlB])
   repeat' ((first|refine xSGa ?_|refine xOGa rfl ?_);(try simp only[ctlB]))
   refine xRGa ?_
   exact⟨rfl,false,rfl,by simp;exact fun hi=>hi q hq2 hc (hz.1 hr)⟩
  ·have hr:rm p q≠0:=by simp at h;omega
   clear h
   (try simp only[ctlB])
   repeat' ((first|refine xSGa ?_|refine xOGa rfl ?_);(try simp only[ctlB]))
   simp only[loopQ_n]
   refine⟨p+2-(q+1),by omega,q+1,_,_,_,_,by omega,by omega,rfl,by trivial,fun t h1 h3=>?_,(by first|rfl|(simp only[Int.natCast_add,Int.natCast_one];rfl)|simp only[Int.natCast_add,Int.natCast_one])⟩
   by_cases e:t=q
   ·subst e;exact fun _ hm=>hr (hz.2 hm)
   ·exact hno t h1 (by omega)
 ·have hc:p.log2<2*q.log2:=by simp at h;omega
  clear h
  (try simp only[ctlB])
  repeat' ((first|refine xSGa ?_|refine xOGa rfl ?_);(try simp only[ctlB]))
  refine xRGa ?_
  refine⟨rfl,true,rfl,?_⟩
  simp only[true_iff]
  intro t h1 h3
  refine hno t h1 ?_ h3
  apply Decidable.byContradiction
  intro hge
  have:=log_mono (show q≤t by omega) hq0
  omega
end Go.Proofs.YtmnlgdpdgjbfgaaGreat
namespace Go.Proofs.YtmnlgdpdgjbfgaaGreat
open Go.Abs Go.RS
set_option linter.unusedSimpArgs false
set_option linter.unusedVariables false
set_option maxRecDepth 20000
theorem ceq3(k:IntKind)(a b c a' b' c':Int):cellsEq [1,1,1] [.int k a,.int k b,.int k c] [.int k a',.int k b',.int k c']=some (decide (a=a')&&(decide (b=b')&&decide (c=c'))):=by
 have e:∀x y:Int,(x==y)=decide (x=y):=fun x y=>by rw[Bool.eq_iff_iff];simp
 simp[cellsEq,cellEq,e]
theorem ite_st(b:Bool):(if b=true then some true else some false)=some b:=by cases b<;>rfl
theorem ite_sf(b:Bool):(if b=false then some true else some false)=some (!b):=by cases b<;>rfl
theorem ite_nt{p:Prop}[Decidable p]:(if p then some false else some true)=some (!decide p):=by by_cases h:p<;>simp[h]
def fv(ch sz po:Int):Value:=.agg #[.int .i64 ch,.int .i64 sz,.int .i64 po]
def FD.ch(f:FD):Nat:=if f.poly=0 then f.q else 2
def fvf(f:FD):Value:=fv (FD.ch f) f.q f.poly
def OkF(ch sz po:Int)(f:FD):Prop:=f.Ok∧sz=f.q∧po=f.poly∧ch=FD.ch f
set_option linter.defProp false in
def xBGb:=And.intro @Int.cast_ofNat_Int (And.intro @ceq3 (And.intro @ite_st (And.intro @ite_sf @ite_nt)))
theorem xEGb{P:Prop}(h:P:=by simp(disch:=first|omega|(simp only[lenB];omega))only[evB,xBGb,Nat.reduceAdd,Nat.reduceBEq, *];rfl):P:=h
theorem xSGb{cp:FuncId→Option CF}{lo:Nat}{l:List (Nat×E)}{chk:List E}{Q:Post}{S:List Value}{H:Heap}{vs:List (Nat×Value)}{S':List Value}(k:Q .normal S' H)(h:evSets S H l=some vs:=by exact xEGb)(hc:evChk S H chk=true:=by simp(disch:=first|omega|(simp only[lenB];omega))only[evB,xBGb,Nat.reduceAdd,Nat.reduceBEq, *])(hS:setAll S vs=S':=by exact xEGb):wpS cp lo (.sets l chk) Q S H:=aw_sets h hc hS k
theorem xHGb{cp:FuncId→Option CF}{lo:Nat}{l:List (Nat×E)}{chk:List E}{Q:Post}{S:List Value}{H:Heap}{vs:List (Nat×Value)}{dst:Option Nat}{o:HOp}{a:E}{xs:List Value}(k:wpH cp lo o xs H fun v H'=>Q .normal (setD (setAll S vs) dst v) H')(h:evSets S H l=some vs:=by exact xEGb)(hc:evChk S H chk=true:=by simp(disch:=first|omega|(simp only[lenB];omega))only[evB,xBGb,Nat.reduceAdd,Nat.reduceBEq, *])(ha:ev S H a=some xs:=by exact xEGb):wpS cp lo (.hv l chk [] dst o a) Q S H:=aw_hv h hc ha k
theorem xOGb{cp:FuncId→Option CF}{lo:Nat}{l:List (Nat×E)}{chk:List E}{Q:Post}{S:List Value}{H:Heap}{vs:List (Nat×Value)}{dst:Option Nat}{o:HOp}{a:E}{xs:List Value}{S':List Value}{H':Heap}{v:Value}(hcall:o.isCall=false)(k:Q .normal S' H')(h:evSets S H l=some vs:=by exact xEGb)(hc:evChk S H chk=true:=by simp(disch:=first|omega|(simp only[lenB];omega))only[evB,xBGb,Nat.reduceAdd,Nat.reduceBEq, *])(ha:ev S H a=some xs:=by exact xEGb)(ho:hsem0 lo o xs H=some (v,H'):=by exact xEGb)(hS:setD (setAll S vs) dst v=S':=by exact xEGb):wpS cp lo (.hv l chk [] dst o a) Q S H:=aw_op hcall h hc ha ho hS k
theorem xCGb{cp:FuncId→Option CF}{lo:Nat}{c:E}{a b:Stm}{Q:Post}{S:List Value}{H:Heap}{t:Bool}(k1:t=true→wpS cp lo a Q S H)(k2:t=false→wpS cp lo b Q S H)(h:ev1 S H c=some (.bool t):=by exact xEGb):wpS cp lo (.cond c a b) Q S H:=aw_cond h k1 k2
theorem xRGb{cf:CF}{R:Value→Heap→Prop}{S:List Value}{H:Heap}{vs:List Value}(k:R (resultOf vs) H)(h:evList S H cf.res=some vs:=by exact xEGb):bodyQ cf R .ret S H:=body_ret h k
set_option maxHeartbeats 1000000 in
theorem valid{lo:Nat}{H:Heap}{ch sz po:Int}(hb:po≤9223372036854775807):Ev cp lo 100 [fv ch sz po] H (fun v H'=>Ext H H'∧∃b,v=.bool b∧(b=true↔∃f,OkF ch sz po f)):=by
 unfold fv
 refine st100 ?_;unfold bd100 cf100;simp only[kB,ctlB]
 repeat' ((first|refine xSGb ?_|refine xOGb rfl ?_);(try simp only[ctlB]))
 refine xCGb (fun h=>?_) (fun h=>?_)
 ·have hpo:po=0:=by simpa using h
  clear h
  subst hpo
  (try simp only[ctlB])
  refine aw_hv_if (xEGb) (by simp(disch:=first|omega|(simp only[lenB];omega))only[evB,xBGb,Nat.reduceAdd,Nat.reduceBEq, *]) (xEGb) (fun h=>?_) (fun h=>?_)
  ·have hc:2<sz∧sz≤4096∧ch=sz:=by simp at h;omega
   obtain⟨n,hn⟩:∃n:Nat,(n:Int)=sz:=⟨sz.toNat,by omega⟩
   refine⟨_,xEGb,?_⟩
   refine wpH_call0 (by rw[←hn];exact prime (n:=n) (by omega)) ?_
   rintro v H1 ⟨rfl,b,rfl,hb⟩
   clear h
   (try simp only[ctlB])
   repeat' ((first|refine xSGb ?_|refine xOGb rfl ?_);(try simp only[ctlB]))
   refine xRGb ?_
   refine⟨Ext.app _ _,b,?_,?_⟩
   ·have hT:((decide (2<sz)&&decide (sz≤4096))&&((decide (ch=sz)&&(decide (sz=sz)&&decide ((0:Int)=0))) != false))=true:=by simp;omega
    simp[resultOf,hc]
   ·rw[hb,prN_iff (by omega)]
    constructor
    ·intro hp
     exact⟨⟨n,0⟩,.inl ⟨rfl,by simp;omega,by simp;omega,hp⟩,by simp;omega,rfl,by simp[FD.ch];omega⟩
    ·rintro⟨f,hf,h1,h2,h3⟩
     rcases hf with ⟨e0,e1,e2,e3⟩|⟨e0,e1,_⟩
     ·have:f.q=n:=by omega
      rw[←this];exact e3
     ·exfalso;omega
  ·have hc:¬ (2<sz∧sz≤4096∧ch=sz):=by
    rintro⟨h1,h2,h3⟩
    simp[h1,h2,h3]at h
   (try simp only[ctlB])
   repeat' ((first|refine xSGb ?_|refine xOGb rfl ?_);(try simp only[ctlB]))
   refine xRGb ?_
   refine⟨Ext.app _ _,false,rfl,?_⟩
   simp only[Bool.false_eq_true,false_iff]
   rintro⟨f,hf,h1,h2,h3⟩
   apply hc
   rcases hf with ⟨e0,e1,e2,e3⟩|⟨e0,e1,_⟩
   ·unfold FD.ch at h3;rw[if_pos e0]at h3;omega
   ·omega
 have hpo:¬ po=0:=by simpa using h
 clear h
 (try simp only[ctlB])
 by_cases hp2:po<2
 ·refine aw_hv_if (xEGb) (by simp(disch:=first|omega|(simp only[lenB];omega))only[evB,xBGb,Nat.reduceAdd,Nat.reduceBEq, *]) (xEGb) (fun h=>by simp[hp2]at h) (fun h=>?_)
  clear h
  (try simp only[ctlB])
  refine xCGb (fun h=>?_) (fun h=>?_)
  ·clear h
   (try simp only[ctlB])
   repeat' ((first|refine xSGb ?_|refine xOGb rfl ?_);(try simp only[ctlB]))
   refine xRGb ?_
   refine⟨Ext.app _ _,false,rfl,?_⟩
   simp only[Bool.false_eq_true,false_iff]
   rintro⟨f,hf,h1,h2,h3⟩
   rcases hf with ⟨e0,e1,e2,e3⟩|⟨e0,e1,_⟩
   ·omega
   ·omega
  ·simp at h
 obtain⟨p,hp⟩:∃p:Nat,(p:Int)=po:=⟨po.toNat,by omega⟩
 have hlp:=lenN_pos (n:=p) (by omega)
 have hlp2:=lenN_le (show p<2^63 by omega)
 have hlp':lenN p≤p.log2+1∧p.log2+1≤lenN p:=by omega
 have hl1:=log_pos (p:=p) (by omega)
 clear hlp
 refine aw_hv_if (xEGb) (by simp(disch:=first|omega|(simp only[lenB];omega))only[evB,xBGb,Nat.reduceAdd,Nat.reduceBEq, *]) (xEGb) (fun h=>⟨_,xEGb,?_⟩) (fun h=>by simp[hp2]at h)
 clear h
 refine wpH_call0 (by rw[←hp];exact degree (n:=p) (by omega)) ?_
 rintro v H1 ⟨rfl,rfl⟩
 (try simp only[ctlB])
 refine xCGb (fun h=>?_) (fun h=>?_)
 ·have hc:12<p.log2:=by simp at h;omega
  clear h
  (try simp only[ctlB])
  repeat' ((first|refine xSGb ?_|refine xOGb rfl ?_);(try simp only[ctlB]))
  refine xRGb ?_
  refine⟨Ext.app _ _,false,rfl,?_⟩
  simp only[Bool.false_eq_true,false_iff]
  rintro⟨f,hf,h1,h2,h3⟩
  rcases hf with ⟨e0,e1,e2,e3⟩|⟨e0,e1,e2,_⟩
  ·omega
  ·have:f.poly=p:=by omega
   rw[this]at e2
   omega
 have hc:p.log2≤12:=by simp at h;omega
 clear h
 (try simp only[ctlB])
 refine xHGb ?_
 refine wpH_call1 (by rw[←hp];exact degree (n:=p) (by omega)) ?_
 rintro v H2 ⟨rfl,rfl⟩
 have e1:(((lenN p:Nat):Int)-1).toNat=p.log2:=by omega
 have e2:=shl_int (a:=1) (k:=p.log2) (by
  have:2^p.log2≤2^12:=Nat.pow_le_pow_right (by omega) hc
  omega) (by omega)
 have e3:IntKind.i64.wrap (1*2^min p.log2 IntKind.i64.bits)=((2^p.log2:Nat):Int):=by
  rw[show(1:Int)=((1:Nat):Int) from rfl,e2,Nat.shiftLeft_eq,Nat.one_mul]
 have hpw:2^p.log2≤2^12:=Nat.pow_le_pow_right (by omega) hc
 have hpb:p<2^13:=Nat.lt_of_lt_of_le (lt_log p) (Nat.pow_le_pow_right (by omega) (by omega))
 generalize hQ:2^p.log2=Q at *
 (try simp only[ctlB])
 refine aw_hv_if (xEGb) (by simp(disch:=first|omega|(simp only[lenB];omega))only[evB,xBGb,Nat.reduceAdd,Nat.reduceBEq, *]) (xEGb) (fun h=>?_) (fun h=>?_)
 ·have hcc:ch=2∧sz=(Q:Int):=by simp at h;omega
  refine⟨_,xEGb,?_⟩
  refine wpH_call0 (by rw[←hp];exact irreducible (p:=p) (by omega) (by omega)) ?_
  rintro v H3 ⟨rfl,b,rfl,hbb⟩
  (try simp only[ctlB])
  repeat' ((first|refine xSGb ?_|refine xOGb rfl ?_);(try simp only[ctlB]))
  refine xRGb ?_
  refine⟨Ext.app _ _,b,by simp[resultOf],?_⟩
  rw[hbb]
  constructor
  ·intro hi
   exact⟨⟨Q,p⟩,.inr ⟨by simp;omega,by simp;omega,hc,hQ.symm,hi⟩,by simp;omega,by simp;omega,by show ch=((if p=0 then Q else 2:Nat):Int);rw[if_neg (by omega)];omega⟩
  ·rintro⟨f,hf,h1,h2,h3⟩
   rcases hf with ⟨e0,_⟩|⟨_,_,_,_,hi⟩
   ·omega
   ·have:f.poly=p:=by omega
    rw[←this];exact hi
 ·have hcc:¬ (ch=2∧sz=(Q:Int)):=by
   rintro⟨h1,h2⟩
   simp[h1,h2,hp]at h
  (try simp only[ctlB])
  repeat' ((first|refine xSGb ?_|refine xOGb rfl ?_);(try simp only[ctlB]))
  refine xRGb ?_
  refine⟨Ext.app _ _,false,by simp[resultOf],?_⟩
  simp only[Bool.false_eq_true,false_iff]
  rintro⟨f,hf,h1,h2,h3⟩
  apply hcc
  rcases hf with ⟨e0,_⟩|⟨e0,_,_,e4,_⟩
  ·omega
  ·have:f.poly=p:=by omega
   rw[this,hQ]at e4
   unfold FD.ch at h3
   rw[if_neg e0]at h3
   omega
end Go.Proofs.YtmnlgdpdgjbfgaaGreat
namespace Go.Proofs.YtmnlgdpdgjbfgaaGreat
open Go.Abs Go.RS
set_option linter.unusedSimpArgs false
set_option linter.unusedVariables false
set_option maxRecDepth 20000
theorem all_take_succ{p:Int→Bool}{l:List Int}{i:Nat}(h:i<l.length):(l.take (i+1)).all p=((l.take i).all p&&p (l.getD i 0)):=by
 rw[List.take_add_one,List.getElem?_eq_getElem h,List.all_append,List.getD_eq_getElem?_getD,List.getElem?_eq_getElem h]
 simp
def inF(sz:Int)(l:List Int):Bool:=l.all fun x=>!(decide (x<0) || decide (sz≤x))
theorem inF_iff{sz:Int}{l:List Int}:inF sz l=true↔∀x ∈ l,0≤x∧x<sz:=by
 unfold inF
 rw[List.all_eq_true]
 constructor
 ·intro h x hx
  have:=h x hx
  simp at this;omega
 ·intro h x hx
  have:=h x hx
  simp;omega
set_option linter.defProp false in
def xBGc:=And.intro @Int.cast_ofNat_Int (And.intro @ceq3 (And.intro @ite_st (And.intro @ite_sf (And.intro @ite_nt @fv.eq_1))))
theorem xEGc{P:Prop}(h:P:=by simp(disch:=first|omega|(simp only[lenB];omega))only[evB,xBGc,Nat.reduceAdd,Nat.reduceBEq, *];rfl):P:=h
theorem xSGc{cp:FuncId→Option CF}{lo:Nat}{l:List (Nat×E)}{chk:List E}{Q:Post}{S:List Value}{H:Heap}{vs:List (Nat×Value)}{S':List Value}(k:Q .normal S' H)(h:evSets S H l=some vs:=by exact xEGc)(hc:evChk S H chk=true:=by simp(disch:=first|omega|(simp only[lenB];omega))only[evB,xBGc,Nat.reduceAdd,Nat.reduceBEq, *])(hS:setAll S vs=S':=by exact xEGc):wpS cp lo (.sets l chk) Q S H:=aw_sets h hc hS k
theorem xHGc{cp:FuncId→Option CF}{lo:Nat}{l:List (Nat×E)}{chk:List E}{Q:Post}{S:List Value}{H:Heap}{vs:List (Nat×Value)}{dst:Option Nat}{o:HOp}{a:E}{xs:List Value}(k:wpH cp lo o xs H fun v H'=>Q .normal (setD (setAll S vs) dst v) H')(h:evSets S H l=some vs:=by exact xEGc)(hc:evChk S H chk=true:=by simp(disch:=first|omega|(simp only[lenB];omega))only[evB,xBGc,Nat.reduceAdd,Nat.reduceBEq, *])(ha:ev S H a=some xs:=by exact xEGc):wpS cp lo (.hv l chk [] dst o a) Q S H:=aw_hv h hc ha k
theorem xOGc{cp:FuncId→Option CF}{lo:Nat}{l:List (Nat×E)}{chk:List E}{Q:Post}{S:List Value}{H:Heap}{vs:List (Nat×Value)}{dst:Option Nat}{o:HOp}{a:E}{xs:List Value}{S':List Value}{H':Heap}{v:Value}(hcall:o.isCall=false)(k:Q .normal S' H')(h:evSets S H l=some vs:=by exact xEGc)(hc:evChk S H chk=true:=by simp(disch:=first|omega|(simp only[lenB];omega))only[evB,xBGc,Nat.reduceAdd,Nat.reduceBEq, *])(ha:ev S H a=some xs:=by exact xEGc)(ho:hsem0 lo o xs H=some (v,H'):=by exact xEGc)(hS:setD (setAll S vs) dst v=S':=by exact xEGc):wpS cp lo (.hv l chk [] dst o a) Q S H:=aw_op hcall h hc ha ho hS k
theorem xCGc{cp:FuncId→Option CF}{lo:Nat}{c:E}{a b:Stm}{Q:Post}{S:List Value}{H:Heap}{t:Bool}(k1:t=true→wpS cp lo a Q S H)(k2:t=false→wpS cp lo b Q S H)(h:ev1 S H c=some (.bool t):=by exact xEGc):wpS cp lo (.cond c a b) Q S H:=aw_cond h k1 k2
theorem exZGc{S:List Value}{F:(Nat→Value)→List Value}(h:S=F (fun k=>S.getD k undef)):∃z,S=F z:=⟨_,h⟩
theorem xRGc{cf:CF}{R:Value→Heap→Prop}{S:List Value}{H:Heap}{vs:List Value}(k:R (resultOf vs) H)(h:evList S H cf.res=some vs:=by exact xEGc):bodyQ cf R .ret S H:=body_ret h k
theorem has{lo:Nat}{H:Heap}{ch sz po:Int}{v:Value}{l:List Int}(hb:po≤9223372036854775807)(hl:SlI H v l)(hll:l.length≤1000000000):Ev cp lo 108 [fv ch sz po,v] H (fun v H'=>Ext H H'∧∃b,v=.bool b∧(b=true↔(∃f,OkF ch sz po f)∧inF sz l=true)):=by
 have hl0:=hl
 obtain⟨ad,c,rfl⟩:=hl.len
 unfold fv
 refine st108 ?_;unfold bd108 cf108;simp only[kB,ctlB]
 repeat' ((first|refine xSGc ?_|refine xOGc rfl ?_);(try simp only[ctlB]))
 refine xHGc ?_
 refine wpH_call0 (valid (ch:=ch) (sz:=sz) (po:=po) hb) ?_
 rintro v H1 ⟨hx1,b,rfl,hbv⟩
 have g0:H1.get H.length=some _:=hx1.get (xEGc)
 have hx1:=hx1.of_app
 have hl1:=Heap.get_lt g0
 (try simp only[ctlB])
 refine xCGc (fun h=>?_) (fun h=>?_)
 ·have hbf:b=false:=by simpa using h
  clear h
  subst hbf
  (try simp only[ctlB])
  repeat' ((first|refine xSGc ?_|refine xOGc rfl ?_);(try simp only[ctlB]))
  refine xRGc ?_
  exact⟨hx1,false,rfl,by simp at hbv ⊢;intro f hf;exact absurd hf (hbv f)⟩
 have hbt:b=true:=by simpa using h
 clear h
 subst hbt
 have hv:=hbv.1 rfl
 (try simp only[ctlB])
 repeat' ((first|refine xSGc ?_|refine xOGc rfl ?_);(try simp only[ctlB]))
 refine aw_for (fun i S H'=>H1=H'∧inF sz (l.take i)=true∧∃(z:Nat→Value),S=[z 0,z 1,.pointer (some ⟨H.length,0,none⟩),.bool false,z 4,z 5,.slice ad l.length c,.int .i64 (l.length:Nat),.int .i64 (i:Nat)]) l.length ?_ ?_ ?_ ?_
 ·exact⟨rfl,rfl,exZGc rfl⟩
 ·rintro i S H' hi ⟨rfl,-,z,rfl⟩
  exact⟨_,xEGc,by simp⟩
 ·rintro i S H' hi ⟨rfl,hin,z,rfl⟩
  obtain⟨b,o,sp,cap,xs,e,g,hat,hxl⟩:=hl0.els 0 (by omega)
  cases e
  have g:=hx1.get g
  have hati:=hat i hi
  have hs:=all_take_succ (p:=fun x=>!(decide (x<0) || decide (sz≤x))) hi
  clear hat
  (try simp only[ctlB])
  repeat' ((first|refine xSGc ?_|refine xOGc rfl ?_);(try simp only[ctlB]))
  refine xCGc (fun h=>?_) (fun h=>?_)
  ·have hno:¬ inF sz l=true:=by
    intro hin2
    have:=inF_iff.1 hin2 (l.getD i 0) (by rw[List.getD_eq_getElem?_getD,List.getElem?_eq_getElem hi];exact List.getElem_mem hi)
    simp at h;simp at this;omega
   clear h hs
   (try simp only[ctlB])
   repeat' ((first|refine xSGc ?_|refine xOGc rfl ?_);(try simp only[ctlB]))
   refine xRGc ?_
   exact⟨hx1,false,rfl,by simp[hno]⟩
  ·have hin2:inF sz (l.take (i+1))=true:=by
    unfold inF at hin ⊢
    rw[hs,hin,h];rfl
   clear h hs
   (try simp only[ctlB])
   repeat' ((first|refine xSGc ?_|refine xOGc rfl ?_);(try simp only[ctlB]))
   exact⟨by trivial,hin2,exZGc (by first|rfl|(simp only[Int.natCast_add,Int.natCast_one];rfl)|simp only[Int.natCast_add,Int.natCast_one])⟩
 ·rintro S H' ⟨rfl,hin,z,rfl⟩
  rw[List.take_of_length_le (Nat.le_refl _)]at hin
  (try simp only[ctlB])
  repeat' ((first|refine xSGc ?_|refine xOGc rfl ?_);(try simp only[ctlB]))
  refine xRGc ?_
  exact⟨hx1,true,rfl,by simp only[true_iff];exact⟨hv,hin⟩⟩
theorem and1_int{b:Nat}(hb:b<2^63):IntKind.i64.wrap ((BitVec.ofInt IntKind.i64.bits (b:Int) &&& BitVec.ofInt IntKind.i64.bits 1).toNat:Int)=((b%2:Nat):Int):=by
 rw[show IntKind.i64.bits=64 from rfl,BitVec.toNat_and,BitVec.ofInt_natCast,show BitVec.ofInt 64 1=BitVec.ofNat 64 1 by rfl,BitVec.toNat_ofNat,BitVec.toNat_ofNat,Nat.mod_eq_of_lt (by omega)]
 show IntKind.i64.wrap ((b &&& 1:Nat):Int)=_
 rw[Nat.and_one_is_mod,wrap_i64 (by omega) (by omega)]
theorem cl_two(a b:Nat):cl a b=(if b%2=1 then a else 0) ^^^ cl (2*a) (b/2):=by
 have e:b=(b%2) ^^^ ((b/2) <<< 1):=by
  apply Nat.eq_of_testBit_eq
  intro i
  rw[Nat.testBit_xor,Nat.testBit_shiftLeft]
  cases i with
  | zero=>simp
  | succ i=>
   have:(b%2).testBit (i+1)=false:=Nat.testBit_lt_two_pow (by have:=Nat.mod_lt b (show 2>0 by omega);have:2^1≤2^(i+1):=Nat.pow_le_pow_right (by omega) (by omega);omega)
   rw[this]
   simp[Nat.testBit_add_one]
 have e2:cl a ((b/2) <<< 1)=cl (2*a) (b/2):=by
  rw[←cl_pow,cl_comm (b/2),←cl_assoc,cl_pow,Nat.shiftLeft_eq,Nat.mul_comm]
 conv=>lhs;rw[e]
 rw[cl_xor,e2]
 congr 1
 split
 ·rename_i h;rw[h,cl_one]
 ·rename_i h;rw[show b%2=0 by omega,cl_zero]
theorem dbl{P a:Nat}(hP:2≤P)(ha:a<2^P.log2):rm (2*a) P=(if 2^P.log2≤2*a then 2*a ^^^ P else 2*a)∧(if 2^P.log2≤2*a then 2*a ^^^ P else 2*a)<2^P.log2:=by
 have hP0:P≠0:=by omega
 split
 ·rename_i h
  have hlt:2*a ^^^ P<2^P.log2:=by
   have hl:(2*a).log2=P.log2:=log_of h (by rw[Nat.pow_succ];omega)
   have h0:2*a≠0:=by have:0<2^P.log2:=Nat.pow_pos (by omega);omega
   have:=red_lt hP0 h0 (by omega)
   rw[hl,Nat.sub_self]at this
   simpa using this
  refine⟨rm_of hP0 hlt (m:=1) ?_,hlt⟩
  rw[cl_one,Nat.xor_comm,Nat.xor_assoc,Nat.xor_self,Nat.xor_zero]
 ·rename_i h
  exact⟨rm_self hP0 (by omega),by omega⟩
theorem product{lo:Nat}{H:Heap}{f:FD}(hf:f.Ok){a b:Nat}(ha:a<f.q)(hb:b<f.q):Ev cp lo 162 [fvf f,.int .i64 a,.int .i64 b] H (fun v H'=>Ext H H'∧v=.int .i64 (fmul f a b:Nat)):=by
 have h2:=hf.two
 unfold fvf fv
 refine st162 ?_;unfold bd162 cf162;simp only[kB,ctlB]
 repeat' ((first|refine xSGc ?_|refine xOGc rfl ?_);(try simp only[ctlB]))
 refine xCGc (fun h=>?_) (fun h=>?_)
 ·have hp:f.poly=0:=by simp at h;omega
  clear h
  have hm:=mul_bd (a:=(a:Int)) (b:=(b:Int)) (A:=4096) (B:=4096) (by omega) (by omega) (by omega) (by omega) (by omega)
  have hmod:((a:Int)*(b:Int)).tmod (f.q:Int)=((a*b%f.q:Nat):Int):=by
   rw[←Int.natCast_mul,Int.tmod_eq_emod_of_nonneg (by omega)];rfl
  (try simp only[ctlB])
  repeat' ((first|refine xSGc ?_|refine xOGc rfl ?_);(try simp only[ctlB]))
  refine xRGc ?_
  refine⟨Ext.app _ _,?_⟩
  unfold fmul
  rw[if_pos hp];rfl
 have hp:f.poly≠0:=by simp at h;omega
 clear h
 rcases hf with ⟨e,_⟩|⟨_,hP,hP12,hq,hi⟩
 ·exact absurd e hp
 replace hq:=hq.symm
 have hpb:f.poly<2^13:=Nat.lt_of_lt_of_le (lt_log f.poly) (Nat.pow_le_pow_right (by omega) (by omega))
 have hfm:fmul f a b=rm (cl a b) f.poly:=by unfold fmul;rw[if_neg hp]
 rw[hfm]
 clear hfm
 generalize hG:H++[some [Value.int .i64 (FD.ch f:Nat),Value.int .i64 (f.q:Nat),Value.int .i64 (f.poly:Nat)]]=G at *
 have g0:G.get H.length=some [Value.int .i64 (FD.ch f:Nat),Value.int .i64 (f.q:Nat),Value.int .i64 (f.poly:Nat)]:=by rw[←hG];exact get_app0
 have hxG:Ext H G:=by rw[←hG];exact Ext.app _ _
 clear hG
 (try simp only[ctlB])
 repeat' ((first|refine xSGc ?_|refine xOGc rfl ?_);(try simp only[ctlB]))
 refine aw_loop' (fun m S H'=>∃(x y s:Nat) (z0:Value),x<f.q∧y<f.q∧s<f.q∧m=y∧G=H'∧s ^^^ rm (cl x y) f.poly=rm (cl a b) f.poly∧S=[z0,.int .i64 (x:Nat),.int .i64 (y:Nat),.pointer (some ⟨H.length,0,none⟩),.int .i64 0,.int .i64 (s:Nat)]) b ?_ ?_
 ·exact⟨a,b,0,_,ha,hb,by omega,rfl,rfl,by rw[Nat.zero_xor],rfl⟩
 rintro m S H' ⟨x,y,s,z0,hx,hy,hs,rfl,rfl,hinv,rfl⟩
 (try simp only[ctlB])
 refine xCGc (fun h=>?_) (fun h=>?_)
 ·have hm0:0<m:=by simpa using h
  clear h
  have a1:=and1_int (b:=m) (by omega)
  have a2:=shr_nat m 1 .i64 (by decide)
  have a3:=shl_int (a:=x) (k:=1) (by omega) (by omega)
  have a4:=xor_int (a:=s) (b:=x) (by omega) (by omega)
  have a5:=xor_int (a:=x <<< 1) (b:=f.poly) (by rw[Nat.shiftLeft_eq];omega) (by omega)
  have e1:x <<< 1=2*x:=by rw[Nat.shiftLeft_eq];omega
  rw[e1]at a3 a5
  have hd:=dbl hP (a:=x) (by rw[hq];exact hx)
  rw[hq]at hd
  have hc2:=cl_two x m
  have i1:(Int.toNat 1)=1:=rfl
  have hsx:s ^^^ x<f.q:=by rw[←hq];exact Nat.xor_lt_two_pow (by rw[hq];exact hs) (by rw[hq];exact hx)
  clear e1
  (try simp only[ctlB])
  refine aw_mid (fun S' H'=>G=H'∧∃(z0:Value),S'=[z0,.int .i64 (x:Nat),.int .i64 (m:Nat),.pointer (some ⟨H.length,0,none⟩),.int .i64 0,.int .i64 ((if m%2=1 then s ^^^ x else s:Nat):Int)]) ?_ ?_
  ·refine xCGc (fun h=>?_) (fun h=>?_)
   ·have ho:m%2=1:=by simp at h;omega
    clear h
    (try simp only[ctlB])
    repeat' ((first|refine xSGc ?_|refine xOGc rfl ?_);(try simp only[ctlB]))
    exact⟨by trivial,_,by rw[if_pos ho]⟩
   ·have ho:¬ m%2=1:=by simp at h;omega
    clear h
    (try simp only[ctlB])
    exact⟨by trivial,_,by rw[if_neg ho]⟩
  rintro S' H' ⟨rfl,z0,rfl⟩
  generalize hsE:(if m%2=1 then s ^^^ x else s:Nat)=s'
  have hs':s'<f.q:=by rw[←hsE];split<;>assumption
  (try simp only[ctlB])
  repeat' ((first|refine xSGc ?_|refine xOGc rfl ?_);(try simp only[ctlB]))
  refine aw_midXB (fun S' H'=>G=H'∧∃(z0:Value),S'=[z0,.int .i64 ((if f.q≤2*x then 2*x ^^^ f.poly else 2*x:Nat):Int),.int .i64 (m:Nat),.pointer (some ⟨H.length,0,none⟩),.int .i64 0,.int .i64 (s':Nat)]) ?_ ?_
  ·refine xCGc (fun h=>?_) (fun h=>?_)
   ·have ho:f.q≤2*x:=by simp at h;omega
    clear h
    (try simp only[ctlB])
    repeat' ((first|refine xSGc ?_|refine xOGc rfl ?_);(try simp only[ctlB]))
    exact⟨by trivial,_,by rw[if_pos ho]⟩
   ·have ho:¬ f.q≤2*x:=by simp at h;omega
    clear h
    (try simp only[ctlB])
    exact⟨by trivial,_,by rw[if_neg ho]⟩
  rintro S' H' ⟨rfl,z0,rfl⟩
  obtain⟨hd1,hd2⟩:=hd
  generalize (if f.q≤2*x then 2*x ^^^ f.poly else 2*x:Nat)=x' at *
  (try simp only[ctlB])
  repeat' ((first|refine xSGc ?_|refine xOGc rfl ?_);(try simp only[ctlB]))
  simp only[loopQ_n]
  refine⟨m/2,by omega,x',m/2,s',_,hd2,by omega,hs',rfl,by trivial,?_,by first|rfl|(simp only[i1,a2];rfl)⟩
  rw[←hinv,hc2,rm_xor hp,←rm_cl_l hp (2*x),hd1,←hsE]
  split
  ·rw[rm_self (r:=x) hp (by rw[hq];exact hx),Nat.xor_assoc]
  ·rw[rm_self (r:=0) hp (Nat.pow_pos (by omega)),Nat.zero_xor]
 ·have hm0:m=0:=by simp at h;omega
  clear h
  rw[hm0,cl_zero,rm_self hp (Nat.pow_pos (by omega)),Nat.xor_zero]at hinv
  (try simp only[ctlB])
  repeat' ((first|refine xSGc ?_|refine xOGc rfl ?_);(try simp only[ctlB]))
  refine xRGc ?_
  exact⟨hxG,by rw[←hinv];rfl⟩
end Go.Proofs.YtmnlgdpdgjbfgaaGreat
namespace Go.Proofs.YtmnlgdpdgjbfgaaGreat
open Go.Abs Go.RS
set_option linter.unusedSimpArgs false
set_option linter.unusedVariables false
set_option maxRecDepth 20000
set_option linter.defProp false in
def xBGd:=And.intro @Int.cast_ofNat_Int (And.intro @ceq3 (And.intro @ite_st (And.intro @ite_sf (And.intro @ite_nt (And.intro @fv.eq_1 @fvf.eq_1)))))
theorem xEGd{P:Prop}(h:P:=by simp(disch:=first|omega|(simp only[lenB];omega))only[evB,xBGd,Nat.reduceAdd,Nat.reduceBEq, *];rfl):P:=h
theorem xSGd{cp:FuncId→Option CF}{lo:Nat}{l:List (Nat×E)}{chk:List E}{Q:Post}{S:List Value}{H:Heap}{vs:List (Nat×Value)}{S':List Value}(k:Q .normal S' H)(h:evSets S H l=some vs:=by exact xEGd)(hc:evChk S H chk=true:=by simp(disch:=first|omega|(simp only[lenB];omega))only[evB,xBGd,Nat.reduceAdd,Nat.reduceBEq, *])(hS:setAll S vs=S':=by exact xEGd):wpS cp lo (.sets l chk) Q S H:=aw_sets h hc hS k
theorem xHGd{cp:FuncId→Option CF}{lo:Nat}{l:List (Nat×E)}{chk:List E}{Q:Post}{S:List Value}{H:Heap}{vs:List (Nat×Value)}{dst:Option Nat}{o:HOp}{a:E}{xs:List Value}(k:wpH cp lo o xs H fun v H'=>Q .normal (setD (setAll S vs) dst v) H')(h:evSets S H l=some vs:=by exact xEGd)(hc:evChk S H chk=true:=by simp(disch:=first|omega|(simp only[lenB];omega))only[evB,xBGd,Nat.reduceAdd,Nat.reduceBEq, *])(ha:ev S H a=some xs:=by exact xEGd):wpS cp lo (.hv l chk [] dst o a) Q S H:=aw_hv h hc ha k
theorem xOGd{cp:FuncId→Option CF}{lo:Nat}{l:List (Nat×E)}{chk:List E}{Q:Post}{S:List Value}{H:Heap}{vs:List (Nat×Value)}{dst:Option Nat}{o:HOp}{a:E}{xs:List Value}{S':List Value}{H':Heap}{v:Value}(hcall:o.isCall=false)(k:Q .normal S' H')(h:evSets S H l=some vs:=by exact xEGd)(hc:evChk S H chk=true:=by simp(disch:=first|omega|(simp only[lenB];omega))only[evB,xBGd,Nat.reduceAdd,Nat.reduceBEq, *])(ha:ev S H a=some xs:=by exact xEGd)(ho:hsem0 lo o xs H=some (v,H'):=by exact xEGd)(hS:setD (setAll S vs) dst v=S':=by exact xEGd):wpS cp lo (.hv l chk [] dst o a) Q S H:=aw_op hcall h hc ha ho hS k
theorem xCGd{cp:FuncId→Option CF}{lo:Nat}{c:E}{a b:Stm}{Q:Post}{S:List Value}{H:Heap}{t:Bool}(k1:t=true→wpS cp lo a Q S H)(k2:t=false→wpS cp lo b Q S H)(h:ev1 S H c=some (.bool t):=by exact xEGd):wpS cp lo (.cond c a b) Q S H:=aw_cond h k1 k2
theorem xRGd{cf:CF}{R:Value→Heap→Prop}{S:List Value}{H:Heap}{vs:List Value}(k:R (resultOf vs) H)(h:evList S H cf.res=some vs:=by exact xEGd):bodyQ cf R .ret S H:=body_ret h k
theorem order{lo:Nat}{H:Heap}{f:FD}(hf:f.Ok){a:El f}{n:Nat}(hn:@Ord (El f) hf.fd a n)(hn2:n≤f.q):Ev cp lo 192 [fvf f,.int .i64 (a.val:Nat)] H (fun v H'=>Ext H H'∧v=.int .i64 n):=by
 have h2:=hf.two
 letI:=hf.fd
 unfold fvf fv
 refine st192 ?_;unfold bd192 cf192;simp only[kB,ctlB]
 repeat' ((first|refine xSGd ?_|refine xOGd rfl ?_);(try simp only[ctlB]))
 generalize hG:H++[some [Value.int .i64 (FD.ch f:Nat),Value.int .i64 (f.q:Nat),Value.int .i64 (f.poly:Nat)]]=G at *
 have g0:G.get H.length=some [Value.int .i64 (FD.ch f:Nat),Value.int .i64 (f.q:Nat),Value.int .i64 (f.poly:Nat)]:=by rw[←hG];exact get_app0
 have hxG:Ext H G:=by rw[←hG];exact Ext.app _ _
 clear hG
 refine aw_loop' (fun m S H'=>∃(k x:Nat) (z0 z6:Value),1≤k∧k≤n∧m=n-k∧(pw a k).val=x∧Ext H H'∧H'.get H.length=some [Value.int .i64 (FD.ch f:Nat),Value.int .i64 (f.q:Nat),Value.int .i64 (f.poly:Nat)]∧S=[z0,.int .i64 (a.val:Nat),.pointer (some ⟨H.length,0,none⟩),.int .i64 0,.int .i64 (k:Nat),.int .i64 (x:Nat),z6]) (n-1) ?_ ?_
 ·exact⟨1,a.val,_,_,by omega,hn.1,rfl,by rw[pw_one],hxG,g0,rfl⟩
 clear g0 hxG
 rintro m S H1 ⟨k,x,z0,z6,hk1,hkn,rfl,hx,hx1,g0,rfl⟩
 have hone:(1:El f).val=1:=rfl
 have hxl:x<f.q:=by rw[←hx];exact(pw a k).lt
 (try simp only[ctlB])
 refine xCGd (fun h=>?_) (fun h=>?_)
 ·have hne:x≠1:=by simp at h;omega
  clear h
  have hlt:k<n:=by
   apply Decidable.byContradiction
   intro hc
   have:k=n:=by omega
   rw[this,hn.2.1,hone]at hx
   exact hne hx.symm
  (try simp only[ctlB])
  repeat' ((first|refine xSGd ?_|refine xOGd rfl ?_);(try simp only[ctlB]))
  refine xHGd ?_
  refine wpH_call0 (product hf hxl a.lt) ?_
  rintro v H2 ⟨hx2,rfl⟩
  have g0:=hx2.get g0
  have hx2:=hx1.trans hx2
  have hmul:fmul f x a.val=(pw a (k+1)).val:=by rw[←hx];rfl
  (try simp only[ctlB])
  repeat' ((first|refine xSGd ?_|refine xOGd rfl ?_);(try simp only[ctlB]))
  simp only[loopQ_n]
  exact⟨n-(k+1),by omega,k+1,(pw a (k+1)).val,_,_,by omega,by omega,rfl,rfl,hx2,g0,by rw[←hmul];simp only[Int.natCast_add,Int.natCast_one];rfl⟩
 ·have he:x=1:=by simp at h;omega
  clear h
  have hkk:k=n:=by
   apply Decidable.byContradiction
   intro hc
   apply hn.2.2 k (by omega) (by omega)
   apply El.ext
   rw[hx,he];rfl
  (try simp only[ctlB])
  repeat' ((first|refine xSGd ?_|refine xOGd rfl ?_);(try simp only[ctlB]))
  refine xRGd ?_
  exact⟨hx1,by rw[←hkk];rfl⟩
structure Gn {f:FD}(hf:f.Ok)(g:El f):Prop where
 pos:1≤g.val
 ord:@Ord (El f) hf.fd g (f.q-1)
 min:∀x:El f,1≤x.val→x.val<g.val→¬ @Ord (El f) hf.fd x (f.q-1)
theorem generator{lo:Nat}{H:Heap}{f:FD}(hf:f.Ok){g:El f}(hg:Gn hf g):Ev cp lo 161 [fvf f] H (fun v H'=>Ext H H'∧v=.int .i64 (g.val:Nat)):=by
 have h2:=hf.two
 have hgl:=g.lt
 unfold fvf fv
 refine st161 ?_;unfold bd161 cf161;simp only[kB,ctlB]
 repeat' ((first|refine xSGd ?_|refine xOGd rfl ?_);(try simp only[ctlB]))
 generalize hG:H++[some [Value.int .i64 (FD.ch f:Nat),Value.int .i64 (f.q:Nat),Value.int .i64 (f.poly:Nat)]]=G at *
 have g0:G.get H.length=some [Value.int .i64 (FD.ch f:Nat),Value.int .i64 (f.q:Nat),Value.int .i64 (f.poly:Nat)]:=by rw[←hG];exact get_app0
 have hxG:Ext H G:=by rw[←hG];exact Ext.app _ _
 clear hG
 have hgp:=hg.pos
 refine aw_loop' (fun m S H'=>∃(k:Nat) (z0 z4 z5:Value),1≤k∧k≤g.val∧m=g.val-k∧Ext H H'∧H'.get H.length=some [Value.int .i64 (FD.ch f:Nat),Value.int .i64 (f.q:Nat),Value.int .i64 (f.poly:Nat)]∧S=[z0,.pointer (some ⟨H.length,0,none⟩),.int .i64 0,.int .i64 (k:Nat),z4,z5]) (g.val-1) ?_ ?_
 ·exact⟨1,_,_,_,by omega,by omega,rfl,hxG,g0,rfl⟩
 clear g0 hxG
 rintro m S H1 ⟨k,z0,z4,z5,hk1,hkn,rfl,hx1,g0,rfl⟩
 obtain⟨n,hn,hnq⟩:∃n,@Ord (El f) hf.fd ⟨k,by omega⟩ n∧n≤f.q-1:=by
  letI:=hf.fd
  refine hf.num.ord ⟨k,by omega⟩ (fun e=>?_)
  have:k=0:=congrArg El.val e
  omega
 have hnq2:n≤f.q-1:=hnq
 (try simp only[ctlB])
 refine xHGd ?_
 refine wpH_call1 (order hf hn (by omega)) ?_
 rintro v H2 ⟨hx2,rfl⟩
 have g0:=hx2.get g0
 have hx2:=hx1.trans hx2
 (try simp only[ctlB])
 refine xCGd (fun h=>?_) (fun h=>?_)
 ·have hne:n≠f.q-1:=by simp at h;omega
  clear h
  have hlt:k<g.val:=by
   apply Decidable.byContradiction
   intro hc
   have hkg:(⟨k,by omega⟩:El f)=g:=El.ext (by show k=g.val;omega)
   rw[hkg]at hn
   have h1:=@ord_dvd (El f) hf.fd g n (f.q-1) hn hg.ord.2.1
   have h3:=@ord_dvd (El f) hf.fd g (f.q-1) n hg.ord hn.2.1
   exact hne (Nat.dvd_antisymm h1 h3)
  (try simp only[ctlB])
  repeat' ((first|refine xSGd ?_|refine xOGd rfl ?_);(try simp only[ctlB]))
  simp only[loopQ_n]
  exact⟨g.val-(k+1),by omega,k+1,_,_,_,by omega,by omega,rfl,hx2,g0,(by first|rfl|(simp only[Int.natCast_add,Int.natCast_one];rfl)|simp only[Int.natCast_add,Int.natCast_one])⟩
 ·have he:n=f.q-1:=by simp at h;omega
  clear h
  have hkk:k=g.val:=by
   apply Decidable.byContradiction
   intro hc
   rw[he]at hn
   exact hg.min ⟨k,by omega⟩ hk1 (by show k<g.val;omega) hn
  (try simp only[ctlB])
  repeat' ((first|refine xSGd ?_|refine xOGd rfl ?_);(try simp only[ctlB]))
  refine xRGd ?_
  exact⟨hx2,by rw[←hkk];rfl⟩
theorem okF_self{f:FD}(hf:f.Ok):∃f',OkF (FD.ch f) f.q f.poly f':=⟨f,hf,rfl,rfl,rfl⟩
theorem poly_bd{f:FD}(hf:f.Ok):(f.poly:Int)≤9223372036854775807:=by
 rcases hf with ⟨e,_⟩|⟨_,hP,hP12,hq,hi⟩
 ·omega
 ·have hpb:f.poly<2^13:=Nat.lt_of_lt_of_le (lt_log f.poly) (Nat.pow_le_pow_right (by omega) (by omega))
  omega
theorem bigGenerator{lo:Nat}{H:Heap}{f:FD}(hf:f.Ok){g:El f}(hg:Gn hf g):Ev cp lo 114 [fvf f] H (fun v H'=>Ext H H'∧v=.tuple #[.int .i64 (g.val:Nat),.int .i64 0]):=by
 unfold fvf fv
 refine st114 ?_;unfold bd114 cf114;simp only[kB,ctlB]
 repeat' ((first|refine xSGd ?_|refine xOGd rfl ?_);(try simp only[ctlB]))
 refine xHGd ?_
 refine wpH_call0 (has (ch:=FD.ch f) (sz:=f.q) (po:=f.poly) (l:=[]) (poly_bd hf) (.inl ⟨rfl,rfl⟩) (by simp)) ?_
 rintro v H1 ⟨hx1,b,rfl,hb⟩
 have g0:H1.get H.length=some _:=hx1.get (xEGd)
 have hx1:=hx1.of_app
 have hbt:b=true:=hb.2 ⟨okF_self hf,rfl⟩
 subst hbt
 (try simp only[ctlB])
 refine xCGd (fun h=>?_) (fun h=>?_)
 ·cases h
 clear h
 (try simp only[ctlB])
 refine xHGd ?_
 refine wpH_call0 (generator hf hg) ?_
 rintro v H2 ⟨hx2,rfl⟩
 (try simp only[ctlB])
 repeat' ((first|refine xSGd ?_|refine xOGd rfl ?_);(try simp only[ctlB]))
 refine xRGd ?_
 exact⟨hx1.trans hx2,rfl⟩
theorem inF_two{q a b:Nat}(ha:a<q)(hb:b<q):inF q [(a:Int),(b:Int)]=true:=by
 rw[inF_iff]
 intro x hx
 simp at hx
 rcases hx with rfl|rfl<;>omega
theorem bigMul{lo:Nat}{H:Heap}{f:FD}(hf:f.Ok){a b:Nat}(ha:a<f.q)(hb:b<f.q):Ev cp lo 115 [fvf f,.int .i64 a,.int .i64 b] H (fun v H'=>Ext H H'∧v=.tuple #[.int .i64 (fmul f a b:Nat),.int .i64 0]):=by
 unfold fvf fv
 refine st115 ?_;unfold bd115 cf115;simp only[kB,ctlB]
 repeat' ((first|refine xSGd ?_|refine xOGd rfl ?_);(try simp only[ctlB]))
 refine xHGd ?_
 refine wpH_call0 (has (ch:=FD.ch f) (sz:=f.q) (po:=f.poly) (l:=[(a:Int),(b:Int)]) (poly_bd hf) (.inr ⟨_,0,none,_,_,rfl,get_appS,rfl,by simp,.inl rfl,by simp⟩) (by simp)) ?_
 rintro v H1 ⟨hx1,bb,rfl,hbb⟩
 have g0:H1.get H.length=some _:=hx1.get (xEGd)
 have hx1:=hx1.of_app
 have hbt:bb=true:=hbb.2 ⟨okF_self hf,inF_two ha hb⟩
 subst hbt
 (try simp only[ctlB])
 refine xCGd (fun h=>?_) (fun h=>?_)
 ·cases h
 clear h
 (try simp only[ctlB])
 refine xHGd ?_
 refine wpH_call0 (product hf ha hb) ?_
 rintro v H2 ⟨hx2,rfl⟩
 (try simp only[ctlB])
 repeat' ((first|refine xSGd ?_|refine xOGd rfl ?_);(try simp only[ctlB]))
 refine xRGd ?_
 exact⟨hx1.trans hx2,rfl⟩
def fsub(f:FD)(a b:Nat):Nat:=if f.poly=0 then(a+f.q-b)%f.q else a ^^^ b
theorem fsub_eq{f:FD}(hf:f.Ok){a b:Nat}(ha:a<f.q)(hb:b<f.q):fsub f a b=fadd f a (fneg f b):=by
 unfold fsub fadd fneg
 split
 ·rw[Nat.add_mod_mod,show a+(f.q-b)=a+f.q-b by omega]
 ·rfl
theorem sub_int{f:FD}{a b:Nat}(h2:2≤f.q)(ha:a<f.q)(hb:b<f.q):((a:Int)-b+f.q).tmod (f.q:Int)=(((a+f.q-b)%f.q:Nat):Int):=by
 rw[Int.tmod_eq_emod_of_nonneg (by omega),show(a:Int)-b+f.q=((a+f.q-b:Nat):Int) by omega]
 rfl
theorem bigSub{lo:Nat}{H:Heap}{f:FD}(hf:f.Ok){a b:Nat}(ha:a<f.q)(hb:b<f.q):Ev cp lo 63 [fvf f,.int .i64 a,.int .i64 b] H (fun v H'=>Ext H H'∧v=.tuple #[.int .i64 (fsub f a b:Nat),.int .i64 0]):=by
 have h2:=hf.two
 unfold fvf fv
 refine st63 ?_;unfold bd63 cf63;simp only[kB,ctlB]
 repeat' ((first|refine xSGd ?_|refine xOGd rfl ?_);(try simp only[ctlB]))
 refine xHGd ?_
 refine wpH_call0 (has (ch:=FD.ch f) (sz:=f.q) (po:=f.poly) (l:=[(a:Int),(b:Int)]) (poly_bd hf) (.inr ⟨_,0,none,_,_,rfl,get_appS,rfl,by simp,.inl rfl,by simp⟩) (by simp)) ?_
 rintro v H1 ⟨hx1,bb,rfl,hbb⟩
 have g0:H1.get H.length=some _:=hx1.get (xEGd)
 have hx1:=hx1.of_app
 have hbt:bb=true:=hbb.2 ⟨okF_self hf,inF_two ha hb⟩
 subst hbt
 (try simp only[ctlB])
 refine xCGd (fun h=>?_) (fun h=>?_)
 ·cases h
 clear h
 have e1:=xor_int (a:=a) (b:=b) (by omega) (by omega)
 have e2:=sub_int h2.1 ha hb
 (try simp only[ctlB])
 refine xCGd (fun h=>?_) (fun h=>?_)
 ·have hp:¬ f.poly=0:=by simp at h;omega
  clear h
  (try simp only[ctlB])
  repeat' ((first|refine xSGd ?_|refine xOGd rfl ?_);(try simp only[ctlB]))
  refine xRGd ?_
  refine⟨hx1,?_⟩
  unfold fsub
  rw[if_neg hp];rfl
 ·have hp:f.poly=0:=by simp at h;omega
  clear h
  (try simp only[ctlB])
  repeat' ((first|refine xSGd ?_|refine xOGd rfl ?_);(try simp only[ctlB]))
  refine xRGd ?_
  refine⟨hx1,?_⟩
  unfold fsub
  rw[if_pos hp];rfl
end Go.Proofs.YtmnlgdpdgjbfgaaGreat
namespace Go.Proofs.YtmnlgdpdgjbfgaaGreat
open Go.Abs Go.RS
set_option linter.unusedSimpArgs false
set_option linter.unusedVariables false
section
variable {f:FD}[OkC f]
theorem gn_ne{g:El f}(h:Gn (OkC.ok (f:=f)) g):g≠0:=fun e=>by
 have h1:=h.pos
 rw[e,val_0]at h1
 omega
theorem gn_ord{g:El f}(h:Gn (OkC.ok (f:=f)) g):Ord g (f.q-1):=h.ord
theorem qle:2≤f.q∧f.q≤4096:=(OkC.ok (f:=f)).two
structure ArH (H:Heap)(g:El f)(be bl:Nat):Prop where
 ex:∃E:List Int,H.get be=some (intL E)∧E.length=f.q-1∧∀n,n<f.q-1→E.getD n 0=((pw g n).val:Nat)
 lg:∃L:List Int,H.get bl=some (intL L)∧L.length=f.q∧∀n,n<f.q-1→L.getD (pw g n).val 0=(n:Nat)
theorem ArH.mono{H H':Heap}{g:El f}{be bl:Nat}(h:ArH H g be bl)(e:Ext H H'):ArH H' g be bl:=by
 obtain⟨⟨E,a,b⟩,⟨L,c,d⟩⟩:=h
 exact⟨⟨E,e.get a,b⟩,⟨L,e.get c,d⟩⟩
theorem ArH.lt{H:Heap}{g:El f}{be bl:Nat}(h:ArH H g be bl):be<H.length∧bl<H.length:=by
 obtain⟨⟨E,a,b⟩,⟨L,c,d⟩⟩:=h
 exact⟨Heap.get_lt a,Heap.get_lt c⟩
theorem ArH.keep{b:Nat}{H H':Heap}{g:El f}{be bl:Nat}(h:ArH H g be bl)(e:Keep b H H')(h1:be≠b)(h2:bl≠b):ArH H' g be bl:=by
 obtain⟨⟨E,a,b⟩,⟨L,c,d⟩⟩:=h
 exact⟨⟨E,e.get a h1,b⟩,⟨L,e.get c h2,d⟩⟩
end
def arC(f:FD)(be bl:Nat):List Value:=[.int .i64 (FD.ch f:Nat),.int .i64 (f.q:Nat),.slice (some ⟨be,0,none⟩) (f.q-1) (f.q-1),.slice (some ⟨bl,0,none⟩) f.q f.q]
def arV(f:FD)(be bl:Nat):Value:=.agg #[.int .i64 (FD.ch f:Nat),.int .i64 (f.q:Nat),.slice (some ⟨be,0,none⟩) (f.q-1) (f.q-1),.slice (some ⟨bl,0,none⟩) f.q f.q]
theorem ch_two{f:FD}(hf:f.Ok):FD.ch f=2↔f.poly≠0:=by
 unfold FD.ch
 rcases hf with ⟨e,h1,_⟩|⟨e,_⟩
 ·rw[if_pos e];simp[e];omega
 ·rw[if_neg e];simp[e]
theorem getD_set_self'{l:List Int}{i:Nat}{v:Int}(h:i<l.length):(l.set i v).getD i 0=v:=by
 rw[List.getD_eq_getElem?_getD,List.getElem?_set_self h];rfl
theorem getD_set_ne'{l:List Int}{i j:Nat}{v:Int}(h:i≠j):(l.set i v).getD j 0=l.getD j 0:=by
 rw[List.getD_eq_getElem?_getD,List.getElem?_set_ne h,←List.getD_eq_getElem?_getD]
end Go.Proofs.YtmnlgdpdgjbfgaaGreat
