/- Lemmas. -/
import Derived.Test.YtgpolmomghejoaaDoorM9
import Derived.Test.YtgpolmomghejoaaDoorM10
set_option linter.unusedVariables false
set_option linter.unusedSimpArgs false
set_option linter.unusedSectionVars false
namespace Go.Proofs.YtgpolmomghejoaaDoor
def digs(B N:Nat):List Nat:=if h:N=0∨B<2 then[] else N%B::digs B (N/B)
 termination_by N
 decreasing_by exact Nat.div_lt_self (by omega) (by omega)
def valB(B:Nat):List Nat→Nat
 | []=>0
 | d::l=>d+B*valB B l
def trimZ:List Nat→List Nat
 | []=>[]
 | d::l=>match trimZ l with
  | []=>if d=0 then[] else[d]
  | r=>d::r
theorem digs_zero(B:Nat):digs B 0=[]:=by unfold digs;simp
theorem digs_pos{B N:Nat}(hB:2≤B)(h:N≠0):digs B N=N%B::digs B (N/B):=by
 rw[digs];rw[dif_neg (by omega)]
theorem digs_ind{B:Nat}(hB:2≤B){p:Nat→Prop}(h0:p 0)(hs:∀N,N≠0→p (N/B)→p N):∀N,p N:=by
 intro N
 induction N using Nat.strongRecOn with
 | _ N ih=>
  by_cases h:N=0
  ·rw[h];exact h0
  ·exact hs N h (ih _ (Nat.div_lt_self (by omega) (by omega)))
theorem valB_digs{B:Nat}(hB:2≤B):∀N,valB B (digs B N)=N:=by
 refine digs_ind hB (by rw[digs_zero];rfl) fun N h ih=>?_
 rw[digs_pos hB h,valB,ih]
 exact Nat.mod_add_div N B
theorem digs_lt{B:Nat}(hB:2≤B):∀N,∀d ∈ digs B N,d<B:=by
 refine digs_ind hB (by rw[digs_zero];simp) fun N h ih=>?_
 rw[digs_pos hB h]
 intro d hd
 rcases List.mem_cons.1 hd with rfl|hd
 ·exact Nat.mod_lt _ (by omega)
 ·exact ih d hd
theorem valB_zero{B:Nat}(hB:2≤B):∀{l:List Nat},valB B l=0→trimZ l=[]
 | [],_=>rfl
 | d::l,h=>by
  simp only[valB]at h
  have h1:d=0:=by omega
  have h2:valB B l=0:=by
   have:B*valB B l=0:=by omega
   rcases Nat.mul_eq_zero.1 this with h|h
   ·omega
   ·exact h
  simp[trimZ,valB_zero hB h2,h1]
theorem digs_val{B:Nat}(hB:2≤B):∀{l:List Nat},(∀d ∈ l,d<B)→digs B (valB B l)=trimZ l
 | [],_=>by simp[valB,digs_zero,trimZ]
 | d::l,h=>by
  have hd:=h d (by simp)
  have ih:=digs_val hB (fun x hx=>h x (by simp[hx]):∀d ∈ l,d<B)
  by_cases h0:valB B (d::l)=0
  ·rw[h0,digs_zero,valB_zero hB h0]
  ·rw[digs_pos hB h0]
   have h1:valB B (d::l)%B=d:=by simp[valB,Nat.mod_eq_of_lt hd]
   have h2:valB B (d::l)/B=valB B l:=by
    rw[valB,Nat.add_mul_div_left _ _ (by omega),Nat.div_eq_of_lt hd,Nat.zero_add]
   rw[h1,h2,ih]
   simp only[trimZ]
   split
   ·rename_i e
    have:valB B l=0:=by
     rw[←ih]at e
     have:=valB_digs hB (valB B l)
     rw[e]at this;exact this.symm
    have hd0:d≠0:=by
     intro e;apply h0;rw[valB,e,this,Nat.mul_zero]
    rw[if_neg hd0,e]
   ·rfl
theorem valB_lt{B:Nat}:∀{l:List Nat},(∀d ∈ l,d<B)→valB B l<B^l.length
 | [],_=>by simp[valB]
 | d::l,h=>by
  have hd:=h d (by simp)
  have ih:=valB_lt (fun x hx=>h x (by simp[hx]):∀d ∈ l,d<B)
  simp only[valB,List.length_cons,Nat.pow_succ]
  have h1:B*valB B l+B≤B^l.length*B:=by
   rw[Nat.mul_comm (B^l.length) B,←Nat.mul_succ]
   exact Nat.mul_le_mul_left B ih
  omega
theorem digs_length_le{B:Nat}(hB:2≤B):∀(k N:Nat),N<B^k→(digs B N).length≤k
 | 0,N,h=>by
  have:N=0:=by simpa using h
  rw[this,digs_zero];simp
 | k+1,N,h=>by
  by_cases h0:N=0
  ·rw[h0,digs_zero];simp
  ·rw[digs_pos hB h0,List.length_cons]
   have:=digs_length_le hB k (N/B) (by rw[Nat.div_lt_iff_lt_mul (by omega)];rwa [Nat.pow_succ]at h)
   omega
theorem digs_last{B:Nat}(hB:2≤B):∀N,(digs B N).getLast?≠some 0:=by
 refine digs_ind hB (by rw[digs_zero];simp) fun N h ih=>?_
 rw[digs_pos hB h]
 by_cases h0:N/B=0
 ·rw[h0,digs_zero]
  simp
  have:N<B:=by
   rcases Nat.lt_or_ge N B with h1|h1
   ·exact h1
   ·have:=Nat.div_pos h1 (by omega);omega
  rw[Nat.mod_eq_of_lt this];exact h
 ·rw[digs_pos hB h0]at ih ⊢
  simpa using ih
theorem trimZ_last{l:List Nat}{n:Nat}(hn:n≤l.length)(hz:∀i,n≤i→i<l.length→l.getD i 0=0)(hl:n=0∨l.getD (n-1) 0≠0):trimZ l=l.take n:=by
 induction l generalizing n with
 | nil=>simp at hn;subst hn;rfl
 | cons d l ih=>
  cases n with
  | zero=>
   have h1:=ih (n:=0) (Nat.zero_le _) (fun i _ hi=>by have:=hz (i+1) (Nat.zero_le _) (by simp;omega);simpa using this) (.inl rfl)
   have h2:=hz 0 (Nat.le_refl _) (by simp)
   simp at h2
   simp only[trimZ,h1,List.take_zero,h2,if_true]
  | succ n=>
   simp at hn
   have h1:=ih (n:=n) hn (fun i hi hl=>by have:=hz (i+1) (by omega) (by simp;omega);simpa using this) (by
    rcases hl with h|h
    ·omega
    ·cases n with
     | zero=>exact .inl rfl
     | succ n=>right;simpa using h)
   simp only[trimZ,h1,List.take_succ_cons]
   split
   ·rename_i e
    have hn0:n=0:=by
     rcases List.take_eq_nil_iff.1 e with h|h
     ·exact h
     ·rw[h]at hn;simpa using hn
    subst hn0
    have:d≠0:=by
     rcases hl with h|h
     ·omega
     ·simpa using h
    rw[if_neg this,e]
   ·rfl
def sclL(B by_:Nat):List Nat→Nat→List Nat
 | [],c=>[c]
 | a::l,c=>(a*by_+c)%B::sclL B by_ l ((a*by_+c)/B)
theorem sclL_val(B by_:Nat):∀(l:List Nat) (c:Nat),valB B (sclL B by_ l c)=valB B l*by_+c
 | [],c=>by simp[sclL,valB]
 | a::l,c=>by
  simp only[sclL,valB,sclL_val B by_ l]
  have:=Nat.mod_add_div (a*by_+c) B
  rw[Nat.mul_add,Nat.add_mul,←Nat.mul_assoc];omega
theorem scl_carry{B a by_ c:Nat}(ha:a<B)(hb:by_<B)(hc:c<B):(a*by_+c)/B<B:=by
 rw[Nat.div_lt_iff_lt_mul (by omega)]
 have:a*by_≤(B-1)*(B-1):=Nat.mul_le_mul (by omega) (by omega)
 obtain⟨b,rfl⟩:∃b,B=b+1:=⟨B-1,by omega⟩
 simp at this
 rw[Nat.succ_mul_succ]
 omega
theorem sclL_lt{B by_:Nat}(hb:by_<B):∀(l:List Nat) (c:Nat),(∀d ∈ l,d<B)→c<B→∀d ∈ sclL B by_ l c,d<B
 | [],c,_,hc=>by simp[sclL,hc]
 | a::l,c,h,hc=>by
  intro d hd
  simp only[sclL,List.mem_cons]at hd
  rcases hd with rfl|hd
  ·exact Nat.mod_lt _ (by omega)
  ·exact sclL_lt hb l _ (fun x hx=>h x (by simp[hx])) (scl_carry (h a (by simp)) hb hc) d hd
theorem sclL_len(B by_:Nat):∀(l:List Nat) (c:Nat),(sclL B by_ l c).length=l.length+1
 | [],c=>rfl
 | a::l,c=>by simp[sclL,sclL_len B by_ l]
def divL(B by_:Nat):List Nat→List Nat×Nat
 | []=>([],0)
 | a::l=>(((divL B by_ l).2*B+a)/by_::(divL B by_ l).1,((divL B by_ l).2*B+a)%by_)
theorem divL_val{B by_:Nat}(hb:0<by_):∀l,valB B (divL B by_ l).1=valB B l/by_∧(divL B by_ l).2=valB B l%by_
 | []=>by simp[divL,valB]
 | a::l=>by
  obtain⟨h1,h2⟩:=divL_val (B:=B) hb l
  simp only[divL,valB,h1,h2]
  have e:a+B*valB B l=(valB B l%by_*B+a)+by_*(B*(valB B l/by_)):=by
   have:=Nat.mod_add_div (valB B l) by_
   have h3:B*valB B l=B*(valB B l%by_)+B*(by_*(valB B l/by_)):=by rw[←Nat.mul_add,this]
   rw[h3,Nat.mul_comm (valB B l%by_) B,Nat.mul_left_comm by_ B];omega
  constructor
  ·rw[e,Nat.add_mul_div_left _ _ hb]
  ·rw[e,Nat.add_mul_mod_self_left]
theorem divL_len(B by_:Nat):∀l,(divL B by_ l).1.length=l.length
 | []=>rfl
 | a::l=>by simp[divL,divL_len B by_ l]
theorem divL_rem{B by_:Nat}(hb:0<by_):∀l,(divL B by_ l).2<by_
 | []=>hb
 | a::l=>Nat.mod_lt _ hb
theorem divL_lt{B by_:Nat}(hb:0<by_):∀l,(∀d ∈ l,d<B)→∀d ∈ (divL B by_ l).1,d<B
 | [],_=>by simp[divL]
 | a::l,h=>by
  intro d hd
  simp only[divL,List.mem_cons]at hd
  rcases hd with rfl|hd
  ·have h1:=divL_rem (B:=B) hb l
   have h2:=h a (by simp)
   rw[Nat.div_lt_iff_lt_mul hb]
   have:((divL B by_ l).2+1)*B≤by_*B:=Nat.mul_le_mul_right B h1
   rw[Nat.add_mul,Nat.one_mul]at this
   rw[Nat.mul_comm B by_];omega
  ·exact divL_lt hb l (fun x hx=>h x (by simp[hx])) d hd
abbrev W32:Nat:=4294967296
abbrev limbs(N:Nat):List Nat:=digs W32 N
theorem limbs_lt(N:Nat):∀d ∈ limbs N,d<W32:=digs_lt (by decide) N
theorem limbs_scale{N by_ c:Nat}(hb:by_<W32)(hc:c<W32):trimZ (sclL W32 by_ (limbs N) c)=limbs (N*by_+c):=by
 rw[←digs_val (by decide) (sclL_lt hb _ _ (limbs_lt N) hc),sclL_val,valB_digs (by decide)]
theorem limbs_div{N by_:Nat}(hb:0<by_):trimZ (divL W32 by_ (limbs N)).1=limbs (N/by_)∧(divL W32 by_ (limbs N)).2=N%by_:=by
 obtain⟨h1,h2⟩:=divL_val (B:=W32) hb (limbs N)
 rw[valB_digs (by decide)]at h1 h2
 exact⟨by rw[←digs_val (by decide) (divL_lt hb _ (limbs_lt N)),h1],h2⟩
open Go.Abs
set_option maxRecDepth 20000
abbrev encW(n:Nat):Value:=.int .u32 (n:Nat)
abbrev SlW:=Sl encW
theorem sl_cut{α:Type}{enc:α→Value}{H:Heap}{b o:Nat}{sp:Option Nat}{xs:List Value}{l:List α}{n cap:Nat}(hb:H.get b=some xs)(hx:(xs.drop o).take l.length=l.map enc)(hl:o+l.length≤xs.length)(hsp:sp=none∨sp=some 1)(hn:n≤l.length)(hc:n≤cap) :
  Sl enc H (.slice (some ⟨b,o,sp⟩) n cap) (l.take n):=by
 refine .inr ⟨b,o,sp,cap,xs,by rw[List.length_take,Nat.min_eq_left hn],hb,?_,by rw[List.length_take];omega,hsp,by rw[List.length_take];omega⟩
 rw[List.length_take,Nat.min_eq_left hn]
 have:((xs.drop o).take l.length).take n=(l.map enc).take n:=by rw[hx]
 rwa [List.take_take,Nat.min_eq_left hn,←List.map_take]at this
set_option linter.defProp false in
def xBSb:=And.intro @Int.cast_ofNat_Int @ite_self.{1}
theorem xESb{P:Prop}(h:P:=by simp(disch:=first|omega|(simp only[lenB];omega))only[evB,xBSb,Nat.reduceAdd,Nat.reduceBEq,Int.reduceToNat, *];rfl):P:=h
theorem xSSb{cp:FuncId→Option CF}{lo:Nat}{l:List (Nat×E)}{chk:List E}{Q:Post}{S:List Value}{H:Heap}{vs:List (Nat×Value)}{S':List Value}(k:Q .normal S' H)(h:evSets S H l=some vs:=by exact xESb)(hc:evChk S H chk=true:=by simp(disch:=first|omega|(simp only[lenB];omega))only[evB,xBSb,Nat.reduceAdd,Nat.reduceBEq,Int.reduceToNat, *])(hS:setAll S vs=S':=by exact xESb):wpS cp lo (.sets l chk) Q S H:=aw_sets h hc hS k
theorem xHSb{cp:FuncId→Option CF}{lo:Nat}{l:List (Nat×E)}{chk:List E}{Q:Post}{S:List Value}{H:Heap}{vs:List (Nat×Value)}{dst:Option Nat}{o:HOp}{a:E}{xs:List Value}(k:wpH cp lo o xs H fun v H'=>Q .normal (setD (setAll S vs) dst v) H')(h:evSets S H l=some vs:=by exact xESb)(hc:evChk S H chk=true:=by simp(disch:=first|omega|(simp only[lenB];omega))only[evB,xBSb,Nat.reduceAdd,Nat.reduceBEq,Int.reduceToNat, *])(ha:ev S H a=some xs:=by exact xESb):wpS cp lo (.hv l chk [] dst o a) Q S H:=aw_hv h hc ha k
theorem xOSb{cp:FuncId→Option CF}{lo:Nat}{l:List (Nat×E)}{chk:List E}{Q:Post}{S:List Value}{H:Heap}{vs:List (Nat×Value)}{dst:Option Nat}{o:HOp}{a:E}{xs:List Value}{S':List Value}{H':Heap}{v:Value}(hcall:o.isCall=false)(k:Q .normal S' H')(h:evSets S H l=some vs:=by exact xESb)(hc:evChk S H chk=true:=by simp(disch:=first|omega|(simp only[lenB];omega))only[evB,xBSb,Nat.reduceAdd,Nat.reduceBEq,Int.reduceToNat, *])(ha:ev S H a=some xs:=by exact xESb)(ho:hsem0 lo o xs H=some (v,H'):=by exact xESb)(hS:setD (setAll S vs) dst v=S':=by exact xESb):wpS cp lo (.hv l chk [] dst o a) Q S H:=aw_op hcall h hc ha ho hS k
theorem xCSb{cp:FuncId→Option CF}{lo:Nat}{c:E}{a b:Stm}{Q:Post}{S:List Value}{H:Heap}{t:Bool}(k1:t=true→wpS cp lo a Q S H)(k2:t=false→wpS cp lo b Q S H)(h:ev1 S H c=some (.bool t):=by exact xESb):wpS cp lo (.cond c a b) Q S H:=aw_cond h k1 k2
theorem exZSb{S:List Value}{F:(Nat→Value)→List Value}(h:S=F (fun k=>S.getD k undef)):∃z,S=F z:=⟨_,h⟩
theorem xRSb{cf:CF}{R:Value→Heap→Prop}{S:List Value}{H:Heap}{vs:List Value}(k:R (resultOf vs) H)(h:evList S H cf.res=some vs:=by exact xESb):bodyQ cf R .ret S H:=body_ret h k
theorem trim{lo:Nat}{H:Heap}{v:Value}{l:List Nat}(hl:SlW H v l)(hb:l.length≤1000000000)(hd:∀d ∈ l,d<W32):Ev cp lo 79 [v] H (fun r H'=>H'=H∧SlW H r (trimZ l)∧∀a n c,v=.slice a n c→r=.slice a (trimZ l).length c):=by
 rcases hl with ⟨rfl,rfl⟩|⟨b,o,sp,cap,xs,rfl,hg,hx,hxl,hsp,hcap⟩
 ·refine st79 ?_;unfold bd79 cf79;simp only[kB,ctlB]
  repeat' ((first|refine xSSb ?_|refine xOSb rfl ?_);(try simp only[ctlB]))
  refine aw_loop' (fun m S H'=>H=H'∧S=[.slice none 0 0,.slice none 0 0,.int .i64 0]) 0 ⟨rfl,rfl⟩ ?_
  rintro m S H' ⟨rfl,rfl⟩
  (try simp only[ctlB])
  refine xCSb (fun h=>?_) (fun h=>?_)
  ·simp at h
  clear h
  (try simp only[ctlB])
  repeat' ((first|refine xSSb ?_|refine xOSb rfl ?_);(try simp only[ctlB]))
  refine xRSb ?_
  exact⟨rfl,.inl ⟨rfl,rfl⟩,fun a n c e=>by cases e;rfl⟩
 have hat:∀i,i<l.length→xs[o+i]?=some (encW (l.getD i 0)):=by
  intro i hi
  have e:((xs.drop o).take l.length)[i]?=(l.map encW)[i]?:=by rw[hx]
  rw[List.getElem?_take,if_pos hi,List.getElem?_drop]at e
  rw[e,List.getElem?_map,List.getElem?_eq_getElem hi,List.getD_eq_getElem?_getD,List.getElem?_eq_getElem hi];rfl
 refine st79 ?_;unfold bd79 cf79;simp only[kB,ctlB]
 repeat' ((first|refine xSSb ?_|refine xOSb rfl ?_);(try simp only[ctlB]))
 refine aw_loop' (fun m S H'=>H=H'∧m≤l.length∧(∀i,m≤i→i<l.length→l.getD i 0=0)∧∃z1,S=[.slice (some ⟨b,o,sp⟩) l.length cap,z1,.int .i64 (m:Nat)]) l.length ?_ ?_
 ·exact⟨rfl,Nat.le_refl _,fun i hi h=>by omega,_,rfl⟩
 rintro m S H' ⟨rfl,hm,hz,z1,rfl⟩
 have hfin:(m=0∨l.getD (m-1) 0≠0)→SlW H (.slice (some ⟨b,o,sp⟩) m cap) (trimZ l)∧∀a n c,Value.slice (some ⟨b,o,sp⟩) l.length cap=.slice a n c→Value.slice (some ⟨b,o,sp⟩) m cap=.slice a (trimZ l).length c:=fun h=>by
  rw[trimZ_last hm hz h]
  exact⟨sl_cut hg hx hxl hsp hm (by omega),fun a n c e=>by cases e;rw[List.length_take,Nat.min_eq_left hm]⟩
 by_cases hm0:m=0
 ·subst hm0
  have hfin:=hfin (.inl rfl)
  (try simp only[ctlB])
  refine xCSb (fun h=>?_) (fun h=>?_)
  ·simp at h
  clear h
  (try simp only[ctlB])
  rcases hsp with rfl|rfl
  ·repeat' ((first|refine xSSb ?_|refine xOSb rfl ?_);(try simp only[ctlB]))
   refine xRSb ?_
   exact⟨rfl,by simpa only[resultOf,ite_self]using hfin⟩
  ·repeat' ((first|refine xSSb ?_|refine xOSb rfl ?_);(try simp only[ctlB]))
   refine xRSb ?_
   exact⟨rfl,by simpa only[resultOf,ite_self]using hfin⟩
 have hati:=hat (m-1) (by omega)
 have e1:((m:Int)-1)=((m-1:Nat):Int):=by omega
 have hmp:(0:Int)<m:=by omega
 (try simp only[ctlB])
 refine xCSb (fun h=>?_) (fun h=>?_)
 ·have hc:l.getD (m-1) 0=0:=by simp only[decide_eq_true_eq]at h;omega
  clear h hat hati hfin
  (try simp only[ctlB])
  repeat' ((first|refine xSSb ?_|refine xOSb rfl ?_);(try simp only[ctlB]))
  simp only[loopQ_n]
  refine⟨m-1,by omega,by trivial,by omega,fun i hi hl=>?_,_,rfl⟩
  by_cases e:i=m-1
  ·rw[e];exact hc
  ·exact hz i (by omega) hl
 ·have hfin:=hfin (.inr (fun e=>by rw[e]at h;simp at h))
  clear h hat hati
  (try simp only[ctlB])
  rcases hsp with rfl|rfl
  ·repeat' ((first|refine xSSb ?_|refine xOSb rfl ?_);(try simp only[ctlB]))
   refine xRSb ?_
   exact⟨rfl,by simpa only[resultOf,ite_self]using hfin⟩
  ·repeat' ((first|refine xSSb ?_|refine xOSb rfl ?_);(try simp only[ctlB]))
   refine xRSb ?_
   exact⟨rfl,by simpa only[resultOf,ite_self]using hfin⟩
theorem wrap_u32(p:Nat):IntKind.u32.wrap (p:Nat)=((p%W32:Nat):Int):=by
 simp[IntKind.wrap,IntKind.bits,IntKind.signed]
theorem wrap_u32'{p:Nat}(h:p<4294967296):IntKind.u32.wrap (p:Nat)=((p:Nat):Int):=by rw[wrap_u32,Nat.mod_eq_of_lt h]
theorem fdiv32(p:Nat):Int.fdiv (p:Nat) (2^min 32 IntKind.u64.bits)=((p/W32:Nat):Int):=by
 have:(2:Int)^min 32 IntKind.u64.bits=((W32:Nat):Int):=by decide
 rw[this,Int.fdiv_eq_ediv_of_nonneg _ (by omega)];rfl
theorem split{lo:Nat}{H:Heap}{p:Nat}(hlo:lo≤H.length)(hp:p<18446744073709551616):Ev cp lo 78 [.int .u64 (p:Nat)] H (fun r H'=>Ext H H'∧r=.agg #[encW (p%W32),encW (p/W32)]):=by
 refine st78 ?_;unfold bd78 cf78;simp only[kB,ctlB]
 repeat' ((first|refine xSSb ?_|refine xOSb rfl ?_);(try simp only[ctlB]))
 refine xRSb ?_
 rw[fdiv32,wrap_u32,wrap_u32,Nat.mod_eq_of_lt (show p/W32<W32 by unfold W32;omega)]
 exact⟨Ext.push _ _,rfl⟩
theorem zerosW(n:Nat):zeros [.int .u32 0] n=(List.replicate n 0).map encW:=by
 induction n with
 | zero=>rfl
 | succ n ih=>rw[List.replicate_succ,List.map_cons,←ih];rfl
theorem set_done{d z:List Nat}{x y:Nat}:((d++x::z).map encW).set d.length (encW y)=((d++[y])++z).map encW:=by
 rw[←List.map_set,List.set_append_right _ _ (Nat.le_refl _)];simp
theorem scale{lo:Nat}{H:Heap}{v:Value}{l:List Nat}{by_ plus:Nat}(hlo:lo≤H.length)(hl:SlW H v l)(hb:l.length≤1000000)(hd:∀d ∈ l,d<W32)(hby:by_<W32)(hp:plus<W32) :
  Ev cp lo 58 [v,encW by_,encW plus] H (fun r H'=>Ext H H'∧SlW H' r (trimZ (sclL W32 by_ l plus))):=by
 have hl0:=hl
 obtain⟨ad,c0,rfl⟩:=hl.len
 have en:((l.length:Int)+1).toNat=l.length+1:=by omega
 refine st58 ?_;unfold bd58 cf58;simp only[kB,ctlB]
 repeat' ((first|refine xSSb ?_|refine xOSb rfl ?_);(try simp only[ctlB]))
 refine aw_for (fun i S H'=>Ext H H'∧∃(d:List Nat) (c:Nat),i≤d.length∧d.length≤i∧H'.get H.length=some ((d++List.replicate (l.length+1-i) 0).map encW)∧c<W32∧(d++sclL W32 by_ (l.drop i) c=sclL W32 by_ l plus∨False)∧∃(z:Nat→Value),S=[.slice ad l.length c0,encW by_,z 2,z 3,.slice (some ⟨H.length,0,none⟩) (l.length+1) (l.length+1),encW c,z 6,z 7,z 8,z 9,.slice ad l.length c0,.int .i64 (l.length:Nat),.int .i64 (i:Nat),z 13,z 14,z 15,z 16,z 17]) l.length ?_ ?_ ?_ ?_
 ·exact⟨Ext.push _ _,[],plus,by simp,by simp,by rw[get_push_self,zerosW];rfl,hp,.inl rfl,exZSb rfl⟩
 ·rintro i S H' hi ⟨hx,d,c,-,-,-,-,-,z,rfl⟩
  exact⟨_,xESb,by simp⟩
 ·rintro i S H' hi ⟨hx,d,c,hd1,hd2,hg,hc,hs,z,rfl⟩
  obtain⟨b,o,sp,cap,xs,e,g,hat,hxl⟩:=hl0.els 0 (by omega)
  cases e
  have g:=hx.get g
  have hati:=hat i hi
  clear hat
  generalize ha:l.getD i 0=a at hati
  have hal:a<W32:=by
   rw[←ha,List.getD_eq_getElem?_getD,List.getElem?_eq_getElem hi];exact hd _ (List.getElem_mem hi)
  have hm:a*by_≤4294967295*4294967295:=Nat.mul_le_mul (by unfold W32 at hal;omega) (by unfold W32 at hby;omega)
  have hm2:(a:Int)*by_=((a*by_:Nat):Int):=by simp
  unfold W32 at hc hal hby
  have hlen:=hx.1
  have hl1:=Heap.get_lt hg
  (try simp only[ctlB])
  repeat' ((first|refine xSSb ?_|refine xOSb rfl ?_);(try simp only[ctlB]))
  refine xHSb ?_
  have ep:((a*by_:Nat):Int)+(c:Nat)=((a*by_+c:Nat):Int):=by omega
  rw[ep]
  refine wpH_call0 (split (by omega) (by omega)) ?_
  rintro v H1 ⟨hx1,rfl⟩
  have hg1:=hx1.get hg
  have hl2:=Heap.get_lt hg1
  have hlen1:=hx1.1
  generalize hX:(d++List.replicate (l.length+1-i) 0).map encW=X at hg1
  have hXl:i<X.length:=by rw[←hX];simp;omega
  clear hati
  (try simp only[ctlB])
  repeat' ((first|refine xSSb ?_|refine xOSb rfl ?_);(try simp only[ctlB]))
  refine aw_dist (xESb) (xESb) (.inr ?_) ?_
  ·simp[blockOf];omega
  (try simp only[ctlB])
  repeat' ((first|refine xSSb ?_|refine xOSb rfl ?_);(try simp only[ctlB]))
  have hXs:X.set i (encW ((a*by_+c)%W32))=((d++[(a*by_+c)%W32])++List.replicate (l.length+1-(i+1)) 0).map encW:=by
   rw[←hX,show l.length+1-i=(l.length+1-(i+1))+1 by omega,List.replicate_succ,show i=d.length by omega,set_done]
  refine⟨((hx.trans hx1).set (Nat.le_refl _)).push' _,d++[(a*by_+c)%W32],(a*by_+c)/W32,by simp;omega,by simp;omega,?_,?_,?_,exZSb (by first|rfl|(simp only[Int.natCast_add,Int.natCast_one];rfl)|simp only[Int.natCast_add,Int.natCast_one])⟩
  ·rw[get_push_lt (by simpa using hl2),get_set_self hl2,hXs]
  ·exact scl_carry hal hby hc
  ·left
   have hs:=hs.resolve_right id
   rw[List.drop_eq_getElem_cons hi,sclL]at hs
   have e2:l[i]=a:=by rw[←ha,List.getD_eq_getElem?_getD,List.getElem?_eq_getElem hi];rfl
   rw[e2]at hs
   rw[List.append_assoc];exact hs
 ·rintro S H' ⟨hx,d,c,hd1,hd2,hg,hc,hs,z,rfl⟩
  have hs:=hs.resolve_right id
  rw[List.drop_length,sclL]at hs
  have hX:(d++List.replicate (l.length+1-l.length) 0).map encW=(d++0::[]).map encW:=by rw[show l.length+1-l.length=1 by omega];rfl
  rw[hX]at hg
  clear hX
  generalize hX:(d++0::[]).map encW=X at hg
  have hXl:l.length<X.length:=by rw[←hX];simp;omega
  have hl1:=Heap.get_lt hg
  (try simp only[ctlB])
  repeat' ((first|refine xSSb ?_|refine xOSb rfl ?_);(try simp only[ctlB]))
  have hXs:X.set l.length (encW c)=(sclL W32 by_ l plus).map encW:=by
   rw[←hX,show l.length=d.length by omega,set_done,List.append_nil,hs]
  rw[hXs]
  refine xHSb ?_
  have hlen:=sclL_len W32 by_ l plus
  refine wpH_call0 (trim (l:=sclL W32 by_ l plus) (Sl.whole (get_set_self (by omega)) hlen) (by omega) (sclL_lt hby l plus hd hp)) ?_
  rintro v H2 ⟨rfl,hv,hve⟩
  (try simp only[ctlB])
  repeat' ((first|refine xSSb ?_|refine xOSb rfl ?_);(try simp only[ctlB]))
  refine xRSb ?_
  exact⟨hx.set (Nat.le_refl _),hv⟩
theorem or_shl{r a:Nat}(hr:r<W32)(ha:a<W32):IntKind.u64.wrap ((BitVec.ofInt IntKind.u64.bits (IntKind.u64.wrap ((r:Int)*2^min 32 IntKind.u64.bits)) ||| BitVec.ofInt IntKind.u64.bits (a:Int)).toNat)=((r*W32+a:Nat):Int):=by
 have ew:IntKind.u64.wrap ((r:Int)*2^min 32 IntKind.u64.bits)=(r:Int)*2^min 32 64:=by
  have:(2:Int)^min 32 64=4294967296:=by decide
  show IntKind.u64.wrap ((r:Int)*2^min 32 64)=_
  rw[this]
  unfold W32 at *
  simp[IntKind.wrap,IntKind.bits,IntKind.signed];omega
 rw[ew]
 show IntKind.u64.wrap ((BitVec.ofInt 64 ((r:Int)*2^min 32 64) ||| BitVec.ofInt 64 (a:Int)).toNat)=((r*W32+a:Nat):Int)
 have e1:(r:Int)*2^min 32 64=((r*W32:Nat):Int):=by
  have:(2:Int)^min 32 64=((W32:Nat):Int):=by decide
  rw[this];simp
 rw[e1,BitVec.ofInt_natCast,BitVec.ofInt_natCast,BitVec.toNat_or,BitVec.toNat_ofNat,BitVec.toNat_ofNat]
 unfold W32 at *
 rw[Nat.mod_eq_of_lt (by omega),Nat.mod_eq_of_lt (by omega)]
 have h:r*4294967296 ||| a=r*4294967296+a:=by
  have:=Nat.two_pow_add_eq_or_of_lt (i:=32) (b:=a) (by omega) r
  rw[Nat.mul_comm];exact this.symm
 rw[h]
 simp[IntKind.wrap,IntKind.bits,IntKind.signed]
 omega
theorem divs{lo:Nat}{H:Heap}{v:Value}{l:List Nat}{by_:Nat}(hlo:lo≤H.length)(hl:SlW H v l)(hb:l.length≤1000000)(hd:∀d ∈ l,d<W32)(hby:by_<W32)(h0:0<by_) :
  Ev cp lo 61 [v,encW by_] H (fun r H'=>Ext H H'∧∃q,r=.tuple #[q,encW (divL W32 by_ l).2]∧SlW H' q (trimZ (divL W32 by_ l).1)∧q=.slice (some ⟨H.length,0,none⟩) (trimZ (divL W32 by_ l).1).length l.length):=by
 have hl0:=hl
 obtain⟨ad,c0,rfl⟩:=hl.len
 have en:((l.length:Int)).toNat=l.length:=by omega
 refine st61 ?_;unfold bd61 cf61;simp only[kB,ctlB]
 repeat' ((first|refine xSSb ?_|refine xOSb rfl ?_);(try simp only[ctlB]))
 refine aw_for (fun i S H'=>Ext H H'∧H'.get H.length=some ((List.replicate (l.length-i) 0++(divL W32 by_ (l.drop (l.length-i))).1).map encW)∧∃(z:Nat→Value),S=[.slice ad l.length c0,encW by_,.slice (some ⟨H.length,0,none⟩) l.length l.length,encW (divL W32 by_ (l.drop (l.length-i))).2,.int .i64 ((l.length:Int)-1-(i:Nat)),z 5,z 6,z 7,z 8]) l.length ?_ ?_ ?_ ?_
 ·refine⟨Ext.push _ _,by rw[get_push_self,zerosW];simp[divL],exZSb ?_⟩
  simp[divL]
 ·rintro i S H' hi ⟨hx,-,z,rfl⟩
  exact⟨_,xESb,by simp;omega⟩
 ·rintro i S H' hi ⟨hx,hg,z,rfl⟩
  obtain⟨b,o,sp,cap,xs,e,g,hat,hxl⟩:=hl0.els 0 (by omega)
  cases e
  have g:=hx.get g
  obtain⟨j,hj,hj2⟩:∃j,j+1+i≤l.length∧l.length≤j+1+i:=⟨l.length-1-i,by omega,by omega⟩
  have hjl:j<l.length:=by omega
  have hati:=hat j hjl
  clear hat
  generalize ha:l.getD j 0=a at hati
  have hal:a<W32:=by
   rw[←ha,List.getD_eq_getElem?_getD,List.getElem?_eq_getElem hjl];exact hd _ (List.getElem_mem hjl)
  have hdr:l.drop (l.length-(i+1))=a::l.drop (l.length-i):=by
   rw[show l.length-(i+1)=j by omega,show l.length-i=j+1 by omega,List.drop_eq_getElem_cons hjl]
   rw[←ha,List.getD_eq_getElem?_getD,List.getElem?_eq_getElem hjl];rfl
  have hrl:=divL_rem (B:=W32) h0 (l.drop (l.length-i))
  have hql:=divL_len W32 by_ (l.drop (l.length-i))
  rw[List.length_drop]at hql
  rw[hdr]
  simp only[divL]
  generalize (divL W32 by_ (l.drop (l.length-i))).1=q at *
  generalize (divL W32 by_ (l.drop (l.length-i))).2=r at *
  have hrW:r<W32:=by omega
  have hqt:(r*W32+a)/by_<W32:=by
   rw[Nat.div_lt_iff_lt_mul h0]
   have:(r+1)*W32≤by_*W32:=Nat.mul_le_mul_right W32 hrl
   rw[Nat.add_mul,Nat.one_mul]at this
   rw[Nat.mul_comm W32 by_];omega
  have hmt:(r*W32+a)%by_<by_:=Nat.mod_lt _ h0
  have eo:=or_shl hrW hal
  generalize hT:r*W32+a=T at *
  have ej:(l.length:Int)-1-(i:Nat)=(j:Nat):=by omega
  have hl1:=Heap.get_lt hg
  generalize hX:(List.replicate (l.length-i) 0++q).map encW=X at hg
  have hXl:j<X.length:=by rw[←hX];simp;omega
  unfold W32 at hal hby hrW hqt
  (try simp only[ctlB])
  have et:(T:Int).tdiv (by_:Int)=((T/by_:Nat):Int):=Int.ofNat_tdiv T by_
  have em:(T:Int).tmod (by_:Int)=((T%by_:Nat):Int):=Int.ofNat_tmod T by_
  generalize T/by_=Q at *
  generalize T%by_=R at *
  have hRt:R<4294967296:=by omega
  clear hmt
  have ew1:=wrap_u32' hqt
  have ew2:=wrap_u32' hRt
  repeat' ((first|refine xSSb ?_|refine xOSb rfl ?_);(try simp only[ctlB]))
  have hXs:X.set j (encW Q)=(List.replicate (l.length-(i+1)) 0++Q::q).map encW:=by
   rw[←hX,show l.length-i=j+1 by omega,show l.length-(i+1)=j by omega,List.replicate_succ',←List.map_set,List.append_assoc,List.set_append_right _ _ (by simp)]
   simp
  have e2:(j:Int)-1=(l.length:Int)-1-((i+1:Nat):Int):=by omega
  exact⟨hx.set (Nat.le_refl _),by rw[get_set_self hl1,hXs],exZSb (by rw[e2];rfl)⟩
 ·rintro S H' ⟨hx,hg,z,rfl⟩
  have e0:l.length-l.length=0:=by omega
  rw[e0]at hg ⊢
  simp only[List.drop_zero,List.replicate_zero,List.nil_append]at hg ⊢
  (try simp only[ctlB])
  refine xHSb ?_
  have hlen:=divL_len W32 by_ l
  refine wpH_call0 (trim (l:=(divL W32 by_ l).1) (Sl.whole hg hlen) (by omega) (divL_lt h0 l hd)) ?_
  rintro v H2 ⟨rfl,hv,hve⟩
  (try simp only[ctlB])
  repeat' ((first|refine xSSb ?_|refine xOSb rfl ?_);(try simp only[ctlB]))
  refine xRSb ?_
  exact⟨hx,_,rfl,hv,hve _ _ _ rfl⟩
theorem vcells2(a b:Value):(Value.agg #[a,b]).cells=#[a,b]:=rfl
abbrev encN(n:Nat):Value:=.int .i64 (n:Nat)
abbrev SlN:=Sl encN
def IsN(H:Heap)(v:Value)(N:Nat):Prop:=∃m,v=.agg #[.bool false,m]∧SlW H m (limbs N)
theorem IsN.mono{H H':Heap}{v:Value}{N:Nat}(h:IsN H v N)(e:Ext H H'):IsN H' v N:=by
 obtain⟨m,rfl,h⟩:=h;exact⟨m,rfl,h.mono e⟩
set_option linter.defProp false in
def xBSc:=And.intro @Int.cast_ofNat_Int (And.intro @ite_self.{1} @vcells2)
theorem xESc{P:Prop}(h:P:=by simp(disch:=first|omega|(simp only[lenB];omega))only[evB,xBSc,Nat.reduceAdd,Nat.reduceBEq,Int.reduceToNat, *];rfl):P:=h
theorem xSSc{cp:FuncId→Option CF}{lo:Nat}{l:List (Nat×E)}{chk:List E}{Q:Post}{S:List Value}{H:Heap}{vs:List (Nat×Value)}{S':List Value}(k:Q .normal S' H)(h:evSets S H l=some vs:=by exact xESc)(hc:evChk S H chk=true:=by simp(disch:=first|omega|(simp only[lenB];omega))only[evB,xBSc,Nat.reduceAdd,Nat.reduceBEq,Int.reduceToNat, *])(hS:setAll S vs=S':=by exact xESc):wpS cp lo (.sets l chk) Q S H:=aw_sets h hc hS k
theorem xHSc{cp:FuncId→Option CF}{lo:Nat}{l:List (Nat×E)}{chk:List E}{Q:Post}{S:List Value}{H:Heap}{vs:List (Nat×Value)}{dst:Option Nat}{o:HOp}{a:E}{xs:List Value}(k:wpH cp lo o xs H fun v H'=>Q .normal (setD (setAll S vs) dst v) H')(h:evSets S H l=some vs:=by exact xESc)(hc:evChk S H chk=true:=by simp(disch:=first|omega|(simp only[lenB];omega))only[evB,xBSc,Nat.reduceAdd,Nat.reduceBEq,Int.reduceToNat, *])(ha:ev S H a=some xs:=by exact xESc):wpS cp lo (.hv l chk [] dst o a) Q S H:=aw_hv h hc ha k
theorem xOSc{cp:FuncId→Option CF}{lo:Nat}{l:List (Nat×E)}{chk:List E}{Q:Post}{S:List Value}{H:Heap}{vs:List (Nat×Value)}{dst:Option Nat}{o:HOp}{a:E}{xs:List Value}{S':List Value}{H':Heap}{v:Value}(hcall:o.isCall=false)(k:Q .normal S' H')(h:evSets S H l=some vs:=by exact xESc)(hc:evChk S H chk=true:=by simp(disch:=first|omega|(simp only[lenB];omega))only[evB,xBSc,Nat.reduceAdd,Nat.reduceBEq,Int.reduceToNat, *])(ha:ev S H a=some xs:=by exact xESc)(ho:hsem0 lo o xs H=some (v,H'):=by exact xESc)(hS:setD (setAll S vs) dst v=S':=by exact xESc):wpS cp lo (.hv l chk [] dst o a) Q S H:=aw_op hcall h hc ha ho hS k
theorem xCSc{cp:FuncId→Option CF}{lo:Nat}{c:E}{a b:Stm}{Q:Post}{S:List Value}{H:Heap}{t:Bool}(k1:t=true→wpS cp lo a Q S H)(k2:t=false→wpS cp lo b Q S H)(h:ev1 S H c=some (.bool t):=by exact xESc):wpS cp lo (.cond c a b) Q S H:=aw_cond h k1 k2
theorem xRSc{cf:CF}{R:Value→Heap→Prop}{S:List Value}{H:Heap}{vs:List Value}(k:R (resultOf vs) H)(h:evList S H cf.res=some vs:=by exact xESc):bodyQ cf R .ret S H:=body_ret h k
theorem integerP{lo:Nat}{H:Heap}{v:Value}{N:Nat}(hlo:lo≤H.length)(hl:SlW H v (limbs N)):Ev cp lo 59 [.bool false,v] H (fun r H'=>Ext H H'∧IsN H' r N):=by
 have hl0:=hl
 obtain⟨ad,c0,rfl⟩:=hl.len
 refine st59 ?_;unfold bd59 cf59;simp only[kB,ctlB]
 repeat' ((first|refine xSSc ?_|refine xOSc rfl ?_);(try simp only[ctlB]))
 refine xCSc (fun h=>?_) (fun h=>?_)
 ·have h0:limbs N=[]:=by
   have:(limbs N).length=0:=by simp at h;simp[h]
   exact List.length_eq_zero_iff.1 this
  clear h
  (try simp only[ctlB])
  repeat' ((first|refine xSSc ?_|refine xOSc rfl ?_);(try simp only[ctlB]))
  refine xRSc ?_
  exact⟨Ext.push _ _,_,rfl,.inl ⟨rfl,h0⟩⟩
 ·clear h
  (try simp only[ctlB])
  repeat' ((first|refine xSSc ?_|refine xOSc rfl ?_);(try simp only[ctlB]))
  refine xRSc ?_
  exact⟨Ext.push _ _,_,rfl,hl0.mono (Ext.push _ _)⟩
theorem validP{lo:Nat}{H:Heap}{v:Value}{N:Nat}(hlo:lo≤H.length)(hl:IsN H v N)(hb:(limbs N).length≤512):Ev cp lo 60 [v] H (fun r H'=>Ext H H'∧r=.bool true):=by
 obtain⟨m,rfl,hm⟩:=hl
 have hm0:=hm
 obtain⟨ad,c0,rfl⟩:=hm.len
 refine st60 ?_;unfold bd60 cf60;simp only[kB,ctlB]
 repeat' ((first|refine xSSc ?_|refine xOSc rfl ?_);(try simp only[ctlB]))
 refine xCSc (fun h=>?_) (fun h=>?_)
 ·clear h
  (try simp only[ctlB])
  repeat' ((first|refine xSSc ?_|refine xOSc rfl ?_);(try simp only[ctlB]))
  refine xRSc ?_
  exact⟨Ext.push _ _,rfl⟩
 ·have hpos:0<(limbs N).length:=by simp at h;have:=List.length_pos_iff.2 h;omega
  clear h
  obtain⟨b,o,sp,cap,xs,e,g,hat,hxl⟩:=hm0.els 0 hpos
  cases e
  have hati:=hat ((limbs N).length-1) (by omega)
  clear hat
  have hlt:(limbs N).length-1<(limbs N).length:=by omega
  have hlast:=digs_last (B:=W32) (by decide) N
  rw[List.getLast?_eq_getElem?,List.getElem?_eq_getElem hlt]at hlast
  have hne:(limbs N).getD ((limbs N).length-1) 0≠0:=by
   rw[List.getD_eq_getElem?_getD,List.getElem?_eq_getElem hlt]
   intro e;apply hlast;simp only[Option.getD_some]at e;rw[e]
  clear hlast
  generalize (limbs N).getD ((limbs N).length-1) 0=x at *
  have e1:((limbs N).length:Int)-1=(((limbs N).length-1:Nat):Int):=by omega
  have hp2:((limbs N).length:Int)≤512:=by omega
  have hbl:=Heap.get_lt g
  (try simp only[ctlB])
  repeat' ((first|refine xSSc ?_|refine xOSc rfl ?_);(try simp only[ctlB]))
  refine xRSc ?_
  refine⟨Ext.push _ _,?_⟩
  simp[resultOf];omega
theorem set_get_self{H:Heap}{d:Nat}{c:List Value}(h:H.get d=some c):H.set d (some c)=H:=by
 have hl:=Heap.get_lt h
 apply List.ext_getElem (by simp)
 intro i h1 h2
 rw[List.getElem_set]
 split
 ·rename_i e
  subst e
  rw[get_of,List.getElem?_eq_getElem hl]at h
  revert h
  cases H[d]with
  | none=>intro h;simp at h
  | some x=>intro h;simp at h;rw[h]
 ·rfl
theorem rev{lo:Nat}{H:Heap}{b n:Nat}{sp:Option Nat}{cap:Nat}{l:List Nat}(hlo:lo≤b)(hg:H.get b=some (l.map encN))(hn:l.length=n)(hb:l.length≤1000000) :
  Ev cp lo 62 [.slice (some ⟨b,0,sp⟩) n cap] H (fun r H'=>H'=H.set b (some (l.reverse.map encN))):=by
 subst hn
 have hbl:=Heap.get_lt hg
 refine st62 ?_;unfold bd62 cf62;simp only[kB,ctlB]
 repeat' ((first|refine xSSc ?_|refine xOSc rfl ?_);(try simp only[ctlB]))
 refine aw_for (fun i S H'=>∃m:List Nat,H'=H.set b (some (m.map encN))∧(l.length≤m.length∧m.length≤l.length)∧(∀k,k<l.length→m.getD k 0=if k<i∨l.length≤k+i then l.getD (l.length-1-k) 0 else l.getD k 0)∧∃(z:Nat→Value),S=[.slice (some ⟨b,0,sp⟩) l.length cap,.int .i64 (i:Nat),.int .i64 ((l.length:Int)-1-(i:Nat)),z 3,z 4,z 5]) (l.length/2) ?_ ?_ ?_ ?_
 ·refine⟨l,(set_get_self hg).symm,by omega,fun k hk=>?_,exZSb ?_⟩
  ·rw[if_neg (by omega)]
  ·simp
 ·rintro i S H' hi ⟨m,rfl,-,-,z,rfl⟩
  exact⟨_,xESc,by simp;omega⟩
 ·rintro i S H' hi ⟨m,rfl,hml,hm,z,rfl⟩
  obtain⟨j,hj,hj2⟩:∃j,j+1+i≤l.length∧l.length≤j+1+i:=⟨l.length-1-i,by omega,by omega⟩
  have ej:(l.length:Int)-1-(i:Nat)=(j:Nat):=by omega
  have ga:(m.map encN)[i]?=some (encN (m.getD i 0)):=by
   rw[List.getElem?_map,List.getD_eq_getElem?_getD,List.getElem?_eq_getElem (show i<m.length by omega)];rfl
  have gb:(m.map encN)[j]?=some (encN (m.getD j 0)):=by
   rw[List.getElem?_map,List.getD_eq_getElem?_getD,List.getElem?_eq_getElem (show j<m.length by omega)];rfl
  generalize hx:m.getD i 0=x at ga
  generalize hy:m.getD j 0=y at gb
  have hXi:i<(m.map encN).length:=by rw[List.length_map];omega
  have hXj:j<(m.map encN).length:=by rw[List.length_map];omega
  have hgb:=get_set_self (H:=H) (c:=m.map encN) hbl
  generalize hX:m.map encN=X at *
  have hij:i≠j:=by omega
  (try simp only[ctlB])
  repeat' ((first|refine xSSc ?_|refine xOSc rfl ?_);(try simp only[ctlB]))
  have e2:(j:Int)-1=(l.length:Int)-1-((i+1:Nat):Int):=by omega
  refine⟨(m.set i y).set j x,by rw[List.set_set,List.set_set,List.map_set,List.map_set,hX],by simp only[List.length_set];exact hml,fun k hk=>?_,exZSb (by rw[e2];rfl)⟩
  have hmk:=hm k hk
  rw[List.getD_eq_getElem?_getD,List.getElem?_set,List.length_set]
  by_cases ekj:j=k
  ·subst ekj
   rw[if_pos rfl,if_pos (by omega),if_pos (by omega),←hx,hm i (by omega),if_neg (by omega),show l.length-1-j=i by omega];rfl
  ·rw[if_neg ekj,List.getElem?_set]
   by_cases eki:i=k
   ·subst eki
    rw[if_pos rfl,if_pos (by omega),if_pos (by omega),←hy,hm j (by omega),if_neg (by omega),show l.length-1-i=j by omega];rfl
   ·rw[if_neg eki,←List.getD_eq_getElem?_getD,hmk]
    by_cases hc:k<i∨l.length≤k+i
    ·rw[if_pos hc,if_pos (by omega)]
    ·rw[if_neg hc,if_neg (by omega)]
 ·rintro S H' ⟨m,rfl,hml,hm,z,rfl⟩
  have hmr:m=l.reverse:=by
   apply List.ext_getElem (by rw[List.length_reverse];omega)
   intro k h1 h2
   have h3:=hm k (by omega)
   rw[List.getElem_reverse]
   rw[List.getD_eq_getElem?_getD,List.getElem?_eq_getElem h1]at h3
   simp only[Option.getD_some]at h3
   rw[h3]
   by_cases hc:k<l.length/2∨l.length≤k+l.length/2
   ·rw[if_pos hc,List.getD_eq_getElem?_getD,List.getElem?_eq_getElem (by omega)];rfl
   ·rw[if_neg hc,List.getD_eq_getElem?_getD,List.getElem?_eq_getElem (by omega)]
    simp only[Option.getD_some]
    congr 1;omega
  subst hmr
  refine body_normal (by simp only[cf62];simp(disch:=first|omega|(simp only[lenB];omega))only[evB,xBSc,Nat.reduceAdd,Nat.reduceBEq,Int.reduceToNat, *];rfl) ?_
  rfl
theorem limbs_nil{N:Nat}:limbs N=[]↔N=0:=by
 constructor
 ·intro h
  have:=valB_digs (B:=W32) (by decide) N
  rw[show digs W32 N=[] from h]at this;exact this.symm
 ·rintro rfl;exact digs_zero _
theorem limbs_pos{N:Nat}(h:N≠0):0<(limbs N).length:=List.length_pos_iff.2 fun e=>h (limbs_nil.1 e)
theorem limbs_len{k N:Nat}(h:N<W32^k):(limbs N).length≤k:=digs_length_le (by decide) k N h
theorem own_len{lo:Nat}{H:Heap}{v:Value}{b:Nat}{l:List Nat}(h:Own lo 1 H v b (l.map encN)):∃a,v=.slice a l.length l.length:=by
 obtain⟨a,n,rfl,h1,_⟩:=h.len (by omega)
 exact⟨a,by rw[show n=l.length by simpa using h1]⟩
theorem own_off{lo sz A:Nat}{H:Heap}{v:Value}{b:Nat}{c:List Value}(h:Own lo sz H v b c)(hA:A≤b){n:Nat}(hn:A≤n)(hlo:lo≤n):∃b',Own lo sz H v b' c∧A≤b'∧(b'<H.length∨n≤b'):=by
 obtain⟨h1,⟨h2,h3⟩|⟨m,h2,h3,h4,h5⟩⟩:=h
 ·exact⟨n,⟨hlo,.inl ⟨h2,h3⟩⟩,hn,.inr (Nat.le_refl _)⟩
 ·exact⟨b,⟨h1,.inr ⟨m,h2,h3,h4,h5⟩⟩,hA,.inl (Heap.get_lt h5)⟩
theorem sl_keep{α:Type}{enc:α→Value}{H H':Heap}{v:Value}{l:List α}{b:Nat}(h:Sl enc H v l)(hk:Keep b H H')(hne:∀b' o sp n c,v=.slice (some ⟨b',o,sp⟩) n c→b'≠b):Sl enc H' v l:=by
 rcases h with h|⟨b',o,sp,cap,xs,h1,h2,h3⟩
 ·exact .inl h
 ·exact .inr ⟨b',o,sp,cap,xs,h1,hk.get h2 (hne _ _ _ _ _ h1),h3⟩
theorem digs_mono{B:Nat}(hB:2≤B):∀(k:Nat) {M N:Nat},M≤N→N<B^k→(digs B M).length≤(digs B N).length
 | 0,M,N,h,hk=>by
  have:M=0:=by simp at hk;omega
  rw[this,digs_zero];simp
 | k+1,M,N,h,hk=>by
  by_cases h0:M=0
  ·rw[h0,digs_zero];simp
  ·rw[digs_pos hB h0,digs_pos hB (show N≠0 by omega)]
   have:=digs_mono hB k (Nat.div_le_div_right h:M/B≤N/B) (by rw[Nat.div_lt_iff_lt_mul (by omega)];rwa [Nat.pow_succ]at hk)
   simp;exact this
theorem limbs_mono{M N:Nat}(h:M≤N):(limbs M).length≤(limbs N).length:=
 digs_mono (by decide) N h (Nat.lt_pow_self (by decide))
theorem digitsP{lo:Nat}{H:Heap}{v:Value}{N B:Nat}(hlo:lo≤H.length)(hv:IsN H v N)(hN:(limbs N).length≤512)(hB:2≤B∧B≤65536)(h0:N≠0)(hd:(digs B N).length≤4000) :
  Ev cp lo 43 [v,.int .i64 (B:Nat)] H (fun r H'=>Ext H H'∧∃w,r=.tuple #[w,.int .i64 0]∧SlN H' w (digs B N).reverse∧∃b sp,H.length≤b∧w=.slice (some ⟨b,0,sp⟩) (digs B N).length (digs B N).length∧H'.get b=some ((digs B N).reverse.map encN)):=by
 have hv0:=hv
 obtain⟨m,rfl,hm⟩:=hv
 have hm0:=hm
 obtain⟨ad,c0,rfl⟩:=hm.len
 have hpos:=limbs_pos h0
 have ewb:=wrap_u32' (p:=B) (by omega)
 refine st43 ?_;unfold bd43 cf43;simp only[kB,ctlB]
 repeat' ((first|refine xSSc ?_|refine xOSc rfl ?_);(try simp only[ctlB]))
 refine xHSc ?_
 have hx0:=Ext.push H (some [.bool false,.slice ad (limbs N).length c0])
 refine wpH_call0 (validP (by simp;omega) (hv0.mono hx0) hN) ?_
 rintro r H1 ⟨hx1,rfl⟩
 have g0:=hx1.get (get_push_self H _)
 have hx1:=hx1.of_push
 have hlen1:=hx1.1
 (try simp only[ctlB])
 refine xCSc (fun h=>?_) (fun h=>?_)
 ·simp only[Bool.not_true,Bool.false_or,Bool.or_eq_true,decide_eq_true_eq]at h;omega
 clear h
 (try simp only[ctlB])
 refine xCSc (fun h=>?_) (fun h=>?_)
 ·exact absurd (limbs_nil.1 (by simpa using h)) h0
 clear h
 (try simp only[ctlB])
 repeat' ((first|refine xSSc ?_|refine xOSc rfl ?_);(try simp only[ctlB]))
 have hsm0:SlW H1 (.slice ad (limbs N).length c0) (limbs N):=hm0.mono hx1
 clear hm hm0 hv0
 refine aw_loop' (fun m S H'=>Ext H1 H'∧∃(M:Nat) (d:List Nat) (w q:Value) (b:Nat),m=M∧(d++digs B M=digs B N∨False)∧H1.length≤b∧Own lo 1 H' w b (d.map encN)∧SlW H' q (limbs M)∧(limbs M).length≤512∧(∃(z:Nat→Value),S=[z 0,.int .i64 (B:Nat),z 2,z 3,z 4,w,q,z 7,z 8,z 9,z 10,z 11,z 12,z 13])) N ?_ ?_
 ·exact⟨Ext.refl _,N,[],_,_,H1.length,rfl,.inl rfl,Nat.le_refl _,Own.nil (by omega),hsm0,hN,exZSb rfl⟩
 rintro M S H' ⟨hx,_,d,w,q,b,rfl,hs,hb,ho,hq,hql,z,rfl⟩
 obtain⟨aw,rfl⟩:=own_len ho
 have hq0:=hq
 obtain⟨aq,cq,rfl⟩:=hq.len
 have hlen2:=hx.1
 have hdl:d.length≤4000:=by
  have:=congrArg List.length (hs.resolve_right id)
  rw[List.length_append]at this;omega
 (try simp only[ctlB])
 refine xCSc (fun h=>?_) (fun h=>?_)
 ·have hM:M≠0:=by
   rintro rfl;rw[show limbs 0=[] from digs_zero _]at h;simp at h
  clear h
  (try simp only[ctlB])
  repeat' ((first|refine xSSc ?_|refine xOSc rfl ?_);(try simp only[ctlB]))
  refine xCSc (fun h=>?_) (fun h=>?_)
  ·simp at h;omega
  clear h
  (try simp only[ctlB])
  repeat' ((first|refine xSSc ?_|refine xOSc rfl ?_);(try simp only[ctlB]))
  refine xHSc ?_
  refine wpH_call0 (divs (by omega) hq0 (by omega) (limbs_lt M) (by unfold W32;omega) (by omega)) ?_
  obtain⟨e1,e2⟩:=limbs_div (N:=M) (by_:=B) (by omega)
  rw[e1,e2]
  rintro r H2 ⟨hx2,q',rfl,hq',hqe⟩
  replace hqe:=Or.inr (a:=False) hqe
  have hrem:M%B<B:=Nat.mod_lt _ (by omega)
  have hlen3:=hx2.1
  obtain⟨b',ho,hb,hbo⟩:=own_off ho (A:=H1.length) hb (n:=H2.length+1) (by omega) (by omega)
  generalize hR:M%B=R at *
  (try simp only[ctlB])
  repeat' ((first|refine xSSc ?_|refine xOSc rfl ?_);(try simp only[ctlB]))
  have hxd:Ext H2 (H2++[some [encN R]]):=Ext.app _ _
  refine xHSc ?_
  refine wpH_app (c:=[encN R]) ((ho.mono hx2).mono hxd) (by simp;omega) (by omega) (by omega) (by simp;omega) get_app0 (by simp) rfl rfl ?_
  intro w' H4 ho4 hk4 hl4
  have hx4:=hk4.ext (hx.trans (hx2.trans hxd)) hb
  have ho5:Own lo 1 H4 w' (H2.length+1) ((d++[R]).map encN):=by simpa using ho4
  clear ho4
  have hqq:SlW H4 q' (limbs (M/B)):=sl_keep (hq'.mono hxd) hk4 (fun b2 o2 sp2 n2 c2 e=>by rw[hqe.resolve_left id]at e;cases e;omega)
  clear hq' hqe
  (try simp only[ctlB])
  repeat' ((first|refine xSSc ?_|refine xOSc rfl ?_);(try simp only[ctlB]))
  simp only[loopQ_n]
  refine⟨M/B,Nat.div_lt_self (by omega) (by omega),hx4,_,d++[R],w',q',H2.length+1,rfl,.inl ?_,by omega,ho5,hqq,?_,exZSb rfl⟩
  ·rw[←hs.resolve_right id,digs_pos (by omega) hM,hR];simp
  ·refine Nat.le_trans (limbs_mono (Nat.div_le_self M B)) hql
 ·have hM:M=0:=by
   apply Decidable.byContradiction
   intro hM
   have:=limbs_pos hM
   simp only[decide_eq_false_iff_not]at h;omega
  clear h
  subst hM
  have hs:=hs.resolve_right id
  rw[digs_zero,List.append_nil]at hs
  obtain⟨hb0,⟨hw,hd0⟩|⟨n,hn0,hn,hw,hg⟩⟩:=ho
  ·have:d=[]:=by simpa using hd0
   rw[this]at hs
   have:=digs_pos (by omega) h0 (B:=B)
   rw[←hs]at this;cases this
  cases hw
  (try simp only[ctlB])
  refine xHSc ?_
  refine wpH_call0 (rev (l:=d) (by omega) hg (by rw[hs]) (by omega)) ?_
  rintro r H2 rfl
  have hbl:=Heap.get_lt hg
  (try simp only[ctlB])
  repeat' ((first|refine xSSc ?_|refine xOSc rfl ?_);(try simp only[ctlB]))
  refine xRSc ?_
  refine⟨(hx1.trans hx).set (by omega),_,rfl,?_,b,some 1,by omega,by rw[←hs],by rw[←hs];exact get_set_self hbl⟩
  rw[←hs]
  exact Sl.whole (get_set_self hbl) (by simp)
def numB(B:Nat)(l:List Nat):Nat:=l.foldl (fun n d=>n*B+d) 0
theorem numB_snoc(B:Nat)(l:List Nat)(d:Nat):numB B (l++[d])=numB B l*B+d:=by simp[numB]
theorem numB_take{B:Nat}{l:List Nat}{i:Nat}(h:i<l.length):numB B (l.take (i+1))=numB B (l.take i)*B+l.getD i 0:=by
 rw[List.take_add_one,List.getElem?_eq_getElem h,Option.toList_some,numB_snoc,List.getD_eq_getElem?_getD,List.getElem?_eq_getElem h];rfl
theorem numB_lt{B:Nat}{l:List Nat}(h:∀d ∈ l,d<B):∀i,i≤l.length→numB B (l.take i)<B^i:=by
 intro i
 induction i with
 | zero=>intro _;simp[numB]
 | succ i ih=>
  intro hi
  have h1:=ih (by omega)
  rw[numB_take (by omega),Nat.pow_succ]
  have h2:l.getD i 0<B:=by
   rw[List.getD_eq_getElem?_getD,List.getElem?_eq_getElem (by omega)];exact h _ (List.getElem_mem _)
  have:(numB B (l.take i)+1)*B≤B^i*B:=Nat.mul_le_mul_right B h1
  rw[Nat.add_mul]at this
  omega
theorem encN_at{H:Heap}{v:Value}{l:List Nat}(h:SlN H v l){i:Nat}(hi:i<l.length):∃b o sp cap xs,v=.slice (some ⟨b,o,sp⟩) l.length cap∧H.get b=some xs∧xs[o+i]?=some (encN (l.getD i 0)):=by
 obtain⟨b,o,sp,cap,xs,e,g,hat,_⟩:=h.els 0 (by omega)
 exact⟨b,o,sp,cap,xs,e,g,hat i hi⟩
theorem sl_setx{α:Type}{enc:α→Value}{H:Heap}{v:Value}{l:List α}{d:Nat}{c c':List Value}(h:Sl enc H v l)(hg:H.get d=some c)(hlen:c'.length=c.length)(hne:∀x ∈ c,∀a,x≠enc a):Sl enc (H.set d (some c')) v l:=by
 rcases h with h|⟨b',o,sp,cap,xs,h1,h2,h3,h4,h5⟩
 ·exact .inl h
 ·by_cases e:b'=d
  ·subst e
   rw[hg]at h2;cases h2
   cases l with
   | nil=>exact .inr ⟨b',o,sp,cap,c',h1,get_set_self (Heap.get_lt hg),by simp,by rw[hlen];exact h4,h5⟩
   | cons a l=>
    have e0:((c.drop o).take (a::l).length)[0]?=((a::l).map enc)[0]?:=by rw[h3]
    rw[List.getElem?_take,if_pos (by simp),List.getElem?_drop]at e0
    simp at e0
    exact absurd rfl (hne _ (List.mem_of_getElem? e0) a)
  ·exact .inr ⟨b',o,sp,cap,xs,h1,(get_set_ne (fun e'=>e e'.symm)).trans h2,h3,h4,h5⟩
theorem fromdP{lo:Nat}{H:Heap}{v:Value}{l:List Nat}{B:Nat}(hlo:lo≤H.length)(hl:SlN H v l)(hb:l.length≤500)(hB:2≤B∧B≤65536)(hd:∀d ∈ l,d<B) :
  Ev cp lo 44 [v,.int .i64 (B:Nat)] H (fun r H'=>Ext H H'∧∃w,r=.tuple #[w,.int .i64 0]∧IsN H' w (numB B l)):=by
 have hl0:=hl
 obtain⟨ad,c0,rfl⟩:=hl.len
 have ewb:=wrap_u32' (p:=B) (by omega)
 refine st44 ?_;unfold bd44 cf44;simp only[kB,ctlB]
 repeat' ((first|refine xSSc ?_|refine xOSc rfl ?_);(try simp only[ctlB]))
 refine xCSc (fun h=>?_) (fun h=>?_)
 ·simp only[Bool.or_eq_true,decide_eq_true_eq]at h;omega
 clear h
 (try simp only[ctlB])
 repeat' ((first|refine xSSc ?_|refine xOSc rfl ?_);(try simp only[ctlB]))
 refine xCSc (fun h=>?_) (fun h=>?_)
 ·simp only[decide_eq_true_eq]at h;omega
 clear h
 (try simp only[ctlB])
 repeat' ((first|refine xSSc ?_|refine xOSc rfl ?_);(try simp only[ctlB]))
 refine aw_for (fun i S H'=>H++[some [.bool false,.slice none 0 0]]=H'∧∃(z:Nat→Value),S=[.slice ad l.length c0,.int .i64 (B:Nat),.pointer (some ⟨H.length,0,none⟩),.int .i64 0,z 4,z 5,z 6,.slice ad l.length c0,.int .i64 (l.length:Nat),.int .i64 (i:Nat),z 10,z 11,z 12,z 13,z 14]) l.length ?_ ?_ ?_ ?_
 ·exact⟨rfl,exZSb rfl⟩
 ·rintro i S H' hi ⟨rfl,z,rfl⟩
  exact⟨_,xESc,by simp⟩
 ·rintro i S H' hi ⟨rfl,z,rfl⟩
  obtain⟨b,o,sp,cap,xs,e,g,hat⟩:=encN_at hl0 hi
  cases e
  have hbl:=Heap.get_lt g
  have hdi:l.getD i 0<B:=by
   rw[List.getD_eq_getElem?_getD,List.getElem?_eq_getElem hi];exact hd _ (List.getElem_mem _)
  generalize l.getD i 0=x at hat hdi
  (try simp only[ctlB])
  repeat' ((first|refine xSSc ?_|refine xOSc rfl ?_);(try simp only[ctlB]))
  refine xCSc (fun h=>?_) (fun h=>?_)
  ·simp only[Bool.or_eq_true,decide_eq_true_eq]at h;omega
  clear h
  (try simp only[ctlB])
  repeat' ((first|refine xSSc ?_|refine xOSc rfl ?_);(try simp only[ctlB]))
  exact⟨by trivial,exZSb (by first|rfl|(simp only[Int.natCast_add,Int.natCast_one];rfl)|simp only[Int.natCast_add,Int.natCast_one])⟩
 ·rintro S H' ⟨rfl,z,rfl⟩
  (try simp only[ctlB])
  repeat' ((first|refine xSSc ?_|refine xOSc rfl ?_);(try simp only[ctlB]))
  refine aw_for (fun i S H'=>Ext (H++[some [.bool false,.slice none 0 0]]) H'∧∃q,SlW H' q (limbs (numB B (l.take i)))∧∃(z:Nat→Value),S=[.slice ad l.length c0,.int .i64 (B:Nat),.pointer (some ⟨H.length,0,none⟩),.int .i64 0,z 4,q,z 6,z 7,z 8,z 9,.slice ad l.length c0,.int .i64 (l.length:Nat),.int .i64 (i:Nat),z 13,z 14]) l.length ?_ ?_ ?_ ?_
  ·exact⟨Ext.refl _,_,.inl ⟨rfl,by simp[numB,digs_zero]⟩,exZSb rfl⟩
  ·rintro i S H' hi ⟨hx,q,-,z,rfl⟩
   exact⟨_,xESc,by simp⟩
  ·rintro i S H' hi ⟨hx,q,hq,z,rfl⟩
   obtain⟨b,o,sp,cap,xs,e,g,hat⟩:=encN_at hl0 hi
   cases e
   have hbl:=Heap.get_lt g
   have g:=hx.get (get_push_lt hbl▸g:Heap.get (H++_) b=some xs)
   have hdi:l.getD i 0<B:=by
    rw[List.getD_eq_getElem?_getD,List.getElem?_eq_getElem hi];exact hd _ (List.getElem_mem _)
   have hnt:=numB_take (B:=B) hi
   have hpw:∀j,j≤l.length→(limbs (numB B (l.take j))).length≤j:=fun j hj=>limbs_len (Nat.lt_of_lt_of_le (numB_lt hd j hj) (Nat.pow_le_pow_left (by unfold W32;omega) j))
   have hp1:=hpw i (by omega)
   have hp2:=hpw (i+1) (by omega)
   rw[hnt]at hp2 ⊢
   clear hnt hpw
   generalize l.getD i 0=x at hat hdi hp2 ⊢
   generalize numB B (l.take i)=N at *
   have ewx:=wrap_u32' (p:=x) (by omega)
   have hlen:=hx.1
   simp at hlen
   (try simp only[ctlB])
   repeat' ((first|refine xSSc ?_|refine xOSc rfl ?_);(try simp only[ctlB]))
   refine xHSc ?_
   refine wpH_call0 (scale (by omega) hq (by omega) (limbs_lt N) (by unfold W32;omega) (by unfold W32;omega)) ?_
   rw[limbs_scale (by unfold W32;omega) (by unfold W32;omega)]
   rintro r H2 ⟨hx2,hr⟩
   have hr0:=hr
   obtain⟨ar,cr,rfl⟩:=hr.len
   (try simp only[ctlB])
   repeat' ((first|refine xSSc ?_|refine xOSc rfl ?_);(try simp only[ctlB]))
   refine xCSc (fun h=>?_) (fun h=>?_)
   ·simp only[decide_eq_true_eq]at h;omega
   clear h
   (try simp only[ctlB])
   repeat' ((first|refine xSSc ?_|refine xOSc rfl ?_);(try simp only[ctlB]))
   exact⟨hx.trans hx2,_,hr0,exZSb (by first|rfl|(simp only[Int.natCast_add,Int.natCast_one];rfl)|simp only[Int.natCast_add,Int.natCast_one])⟩
  ·rintro S H' ⟨hx,q,hq,z,rfl⟩
   rw[List.take_length]at hq
   have hlen:=hx.1
   simp at hlen
   have g0:=hx.get (get_push_self H _)
   have hx:=hx.of_push
   (try simp only[ctlB])
   repeat' ((first|refine xSSc ?_|refine xOSc rfl ?_);(try simp only[ctlB]))
   refine xHSc ?_
   refine wpH_call0 (integerP (by omega) hq) ?_
   rintro r H2 ⟨hx2,m,rfl,hm⟩
   have hm0:=hm
   obtain⟨am,cm,rfl⟩:=hm.len
   have g0:=hx2.get g0
   have hl2:=Heap.get_lt g0
   (try simp only[ctlB])
   repeat' ((first|refine xSSc ?_|refine xOSc rfl ?_);(try simp only[ctlB]))
   refine xRSc ?_
   exact⟨(hx.trans hx2).set (Nat.le_refl _),_,rfl,_,rfl,sl_setx hm0 g0 rfl (fun x hx a=>by simp at hx;rcases hx with rfl|rfl<;>simp)⟩
abbrev strV(l:List UInt8):Value:=.string ⟨l.toArray⟩
theorem str_size(l:List UInt8):(ByteArray.mk l.toArray).size=l.length:=by simp[ByteArray.size]
theorem ls_lenS'(H:Heap)(l:List UInt8):lsem .lenS [strV l] H=some (.int .i64 (l.length:Nat)):=by
 simp only[lsem,str_size]
theorem bytes_beq(a b:List UInt8):((ByteArray.mk a.toArray).toList==(ByteArray.mk b.toArray).toList)=(a==b):=by
 rw[ByteArray.toList_mk,ByteArray.toList_mk]
theorem ls_seq(H:Heap)(a b:List UInt8):lsem (.bin .eql) [strV a,strV b] H=some (.bool (decide (a=b))):=by
 simp only[lsem,binSem,binStr,bytes_beq]
 by_cases h:a=b<;>simp[h]
theorem ls_sne(H:Heap)(a b:List UInt8):lsem (.bin .neq) [strV a,strV b] H=some (.bool (decide (a≠b))):=by
 simp only[lsem,binSem,binStr,bytes_beq]
 by_cases h:a=b<;>simp[h]
theorem str_at(l:List UInt8)(i:Nat):(ByteArray.mk l.toArray)[i]?=l[i]?:=by
 by_cases h:i<l.length
 ·rw[List.getElem?_eq_getElem h]
  have h2:i<(ByteArray.mk l.toArray).size:=by rw[str_size];exact h
  rw[getElem?_pos (ByteArray.mk l.toArray) i h2]
  rfl
 ·rw[List.getElem?_eq_none (by omega),getElem?_neg]
  rw[str_size];omega
theorem ls_idxS'{H:Heap}{l:List UInt8}{k:IntKind}{i:Nat}(h:i<l.length):lsem .idxS [strV l,.int k (i:Nat)] H=some (.int .u8 ((l.getD i 0).toNat:Nat)):=by
 simp only[lsem]
 rw[if_pos (by omega),Int.toNat_natCast,str_at,List.getElem?_eq_getElem h,List.getD_eq_getElem?_getD,List.getElem?_eq_getElem h];rfl
theorem ls_idxS0{H:Heap}{l:List UInt8}{k:IntKind}(h:0<l.length):lsem .idxS [strV l,.int k 0] H=some (.int .u8 ((l.getD 0 0).toNat:Nat)):=ls_idxS' h
theorem str_cut(l:List UInt8)(a b:Nat):(ByteArray.mk l.toArray).extract a b=⟨((l.take b).drop a).toArray⟩:=by
 apply ByteArray.ext
 simp only[ByteArray.data_extract,List.extract_toArray,List.extract_eq_drop_take']
theorem ls_slSa{H:Heap}{l:List UInt8}{k:IntKind}{a:Nat}(h:a≤l.length):lsem (.slS true false) [strV l,.int k (a:Nat)] H=some (strV (l.drop a)):=by
 simp only[lsem,str_size]
 rw[bd_lo (by omega) (by omega)]
 simp[str_cut]
theorem ls_slSb{H:Heap}{l:List UInt8}{k:IntKind}{b:Nat}(h:b≤l.length):lsem (.slS false true) [strV l,.int k (b:Nat)] H=some (strV (l.take b)):=by
 simp only[lsem,str_size]
 rw[bd_hi (by omega) (by omega)]
 simp[str_cut]
theorem ls_slSc{H:Heap}{l:List UInt8}{k k':IntKind}{a b:Nat}(h:a≤b)(h2:b≤l.length):lsem (.slS true true) [strV l,.int k (a:Nat),.int k' (b:Nat)] H=some (strV ((l.take b).drop a)):=by
 simp only[lsem,str_size]
 rw[bd_lohi (by omega) (by omega) (by omega)]
 simp[str_cut]
theorem hs_sit'{lo:Nat}(H:Heap)(s:ByteArray):hsem0 lo .sit [.string s] H=some (.pointer (some ⟨H.length,0,some 0⟩),H++[some [.string s,.int .i64 (0:Nat)]]):=rfl
theorem hs_snx'{lo:Nat}{H:Heap}{l:List UInt8}{b p z:Nat}(hlo:lo≤b)(hg:H.get b=some [strV l,.int .i64 (p:Nat)])(hp:p<l.length)(ha:(l.getD p 0).toNat<128) :
  hsem0 lo .snx [.pointer (some ⟨b,0,some z⟩)] H=some (.tuple #[.bool true,.int .i64 (p:Nat),.int .i32 ((l.getD p 0).toNat:Nat)],H.set b (some [strV l,.int .i64 ((p+1:Nat):Int)])):=by
 have h1:p<(ByteArray.mk l.toArray).size:=by rw[str_size];exact hp
 have h2:((ByteArray.mk l.toArray)[p]'h1)=l.getD p 0:=by
  have:=str_at l p
  rw[getElem?_pos (ByteArray.mk l.toArray) p h1,List.getElem?_eq_getElem hp]at this
  rw[List.getD_eq_getElem?_getD,List.getElem?_eq_getElem hp]
  simpa using this
 have hd:=decode_ascii ⟨l.toArray⟩ p h1 (by rw[h2];exact ha)
 rw[h2]at hd
 simp only[hsem0,hsem,snxSem]
 rw[if_pos hlo,hg]
 show(if p<(ByteArray.mk l.toArray).size then _ else _)=_
 rw[if_pos h1,hd];rfl
theorem hs_sne'{lo:Nat}{H:Heap}{l:List UInt8}{b p z:Nat}(hlo:lo≤b)(hg:H.get b=some [strV l,.int .i64 (p:Nat)])(hp:l.length≤p) :
  hsem0 lo .snx [.pointer (some ⟨b,0,some z⟩)] H=some (.tuple #[.bool false],H):=by
 have h1:¬ p<(ByteArray.mk l.toArray).size:=by rw[str_size];omega
 simp only[hsem0,hsem,snxSem]
 rw[if_pos hlo,hg]
 show(if p<(ByteArray.mk l.toArray).size then _ else _)=_
 rw[if_neg h1]
set_option linter.defProp false in
def xBSe:=And.intro @Int.cast_ofNat_Int (And.intro @ite_self.{1} (And.intro @vcells2 (And.intro @ls_lenS' (And.intro @str_size (And.intro @ls_seq (And.intro @ls_sne (And.intro @ls_idxS' (And.intro @ls_idxS0 (And.intro @ls_slSa (And.intro @ls_slSb (And.intro @ls_slSc (And.intro @hs_sit' (And.intro @hs_snx' @hs_sne')))))))))))))
theorem xESe{P:Prop}(h:P:=by simp(disch:=first|omega|(simp only[lenB];omega))only[evB,xBSe,Nat.reduceAdd,Nat.reduceBEq,Int.reduceToNat, *];rfl):P:=h
theorem xSSe{cp:FuncId→Option CF}{lo:Nat}{l:List (Nat×E)}{chk:List E}{Q:Post}{S:List Value}{H:Heap}{vs:List (Nat×Value)}{S':List Value}(k:Q .normal S' H)(h:evSets S H l=some vs:=by exact xESe)(hc:evChk S H chk=true:=by simp(disch:=first|omega|(simp only[lenB];omega))only[evB,xBSe,Nat.reduceAdd,Nat.reduceBEq,Int.reduceToNat, *])(hS:setAll S vs=S':=by exact xESe):wpS cp lo (.sets l chk) Q S H:=aw_sets h hc hS k
theorem xHSe{cp:FuncId→Option CF}{lo:Nat}{l:List (Nat×E)}{chk:List E}{Q:Post}{S:List Value}{H:Heap}{vs:List (Nat×Value)}{dst:Option Nat}{o:HOp}{a:E}{xs:List Value}(k:wpH cp lo o xs H fun v H'=>Q .normal (setD (setAll S vs) dst v) H')(h:evSets S H l=some vs:=by exact xESe)(hc:evChk S H chk=true:=by simp(disch:=first|omega|(simp only[lenB];omega))only[evB,xBSe,Nat.reduceAdd,Nat.reduceBEq,Int.reduceToNat, *])(ha:ev S H a=some xs:=by exact xESe):wpS cp lo (.hv l chk [] dst o a) Q S H:=aw_hv h hc ha k
theorem xOSe{cp:FuncId→Option CF}{lo:Nat}{l:List (Nat×E)}{chk:List E}{Q:Post}{S:List Value}{H:Heap}{vs:List (Nat×Value)}{dst:Option Nat}{o:HOp}{a:E}{xs:List Value}{S':List Value}{H':Heap}{v:Value}(hcall:o.isCall=false)(k:Q .normal S' H')(h:evSets S H l=some vs:=by exact xESe)(hc:evChk S H chk=true:=by simp(disch:=first|omega|(simp only[lenB];omega))only[evB,xBSe,Nat.reduceAdd,Nat.reduceBEq,Int.reduceToNat, *])(ha:ev S H a=some xs:=by exact xESe)(ho:hsem0 lo o xs H=some (v,H'):=by exact xESe)(hS:setD (setAll S vs) dst v=S':=by exact xESe):wpS cp lo (.hv l chk [] dst o a) Q S H:=aw_op hcall h hc ha ho hS k
theorem xCSe{cp:FuncId→Option CF}{lo:Nat}{c:E}{a b:Stm}{Q:Post}{S:List Value}{H:Heap}{t:Bool}(k1:t=true→wpS cp lo a Q S H)(k2:t=false→wpS cp lo b Q S H)(h:ev1 S H c=some (.bool t):=by exact xESe):wpS cp lo (.cond c a b) Q S H:=aw_cond h k1 k2
theorem xRSe{cf:CF}{R:Value→Heap→Prop}{S:List Value}{H:Heap}{vs:List Value}(k:R (resultOf vs) H)(h:evList S H cf.res=some vs:=by exact xESe):bodyQ cf R .ret S H:=body_ret h k
theorem haspP{lo:Nat}{H:Heap}{l p:List UInt8}:Ev cp lo 93 [strV l,strV p] H (fun r H'=>H'=H∧r=.bool (decide (p.length≤l.length)&&decide (l.take p.length=p))):=by
 refine st93 ?_;unfold bd93 cf93;simp only[kB,ctlB]
 by_cases hc:p.length≤l.length
 ·repeat' ((first|refine xSSe ?_|refine xOSe rfl ?_);(try simp only[ctlB]))
  refine xRSe ?_
  exact⟨rfl,by simp[resultOf,hc]⟩
 ·have hc2:¬ ((p.length:Int)≤(l.length:Nat)):=by omega
  repeat' ((first|refine xSSe ?_|refine xOSe rfl ?_);(try simp only[ctlB]))
  refine xRSe ?_
  exact⟨rfl,by simp[resultOf,hc]⟩
theorem cutqP{lo:Nat}{H:Heap}{l p:List UInt8}(h:¬ l.take p.length=p):Ev cp lo 77 [strV l,strV p] H (fun r H'=>H'=H∧r=.tuple #[strV l,.bool false]):=by
 refine st77 ?_;unfold bd77 cf77;simp only[kB,ctlB]
 repeat' ((first|refine xSSe ?_|refine xOSe rfl ?_);(try simp only[ctlB]))
 refine xHSe ?_
 refine wpH_call0 haspP ?_
 have hf:(decide (p.length≤l.length)&&decide (l.take p.length=p))=false:=by simp[h]
 rw[hf]
 rintro r H1 ⟨rfl,rfl⟩
 clear h hf
 (try simp only[ctlB])
 refine xCSe (fun h=>?_) (fun h=>?_)
 ·clear h
  (try simp only[ctlB])
  repeat' ((first|refine xSSe ?_|refine xOSe rfl ?_);(try simp only[ctlB]))
  refine xRSe ?_
  exact⟨rfl,rfl⟩
 ·simp at h
theorem cutpP{lo:Nat}{H:Heap}{l p:List UInt8}(h:¬ l.take p.length=p):Ev cp lo 57 [strV l,strV p] H (fun r H'=>H'=H∧r=.tuple #[strV l,.bool false]):=by
 refine st57 ?_;unfold bd57 cf57;simp only[kB,ctlB]
 repeat' ((first|refine xSSe ?_|refine xOSe rfl ?_);(try simp only[ctlB]))
 refine xHSe ?_
 refine wpH_call0 (cutqP h) ?_
 rintro r H1 ⟨rfl,rfl⟩
 clear h
 (try simp only[ctlB])
 repeat' ((first|refine xSSe ?_|refine xOSe rfl ?_);(try simp only[ctlB]))
 refine xRSe ?_
 exact⟨rfl,rfl⟩
def dgt(l:List UInt8):List Nat:=l.map fun b=>b.toNat-48
def isDg(b:UInt8):Bool:=decide (48≤b.toNat)&&decide (b.toNat≤57)
theorem dgt_lt{l:List UInt8}(h:∀b ∈ l,isDg b=true):∀d ∈ dgt l,d<10:=by
 intro d hd
 obtain⟨b,hb,rfl⟩:=List.mem_map.1 hd
 have:=h b hb
 simp[isDg]at this;omega
theorem parseP{lo:Nat}{H:Heap}{l:List UInt8}(hlo:lo≤H.length)(hl:l.length≤4000)(h1:0<l.length)(hh:(l.getD 0 0).toNat≠48)(hd:∀b ∈ l,isDg b=true) :
  Ev cp lo 42 [strV l] H (fun r H'=>Ext H H'∧∃w,r=.tuple #[w,.int .i64 0]∧IsN H' w (numB 10 (dgt l))):=by
 have hne:¬ l.take ([45]:List UInt8).length=[45]:=by
  intro e
  cases l with
  | nil=>simp at h1
  | cons a l=>
   simp at e
   have:=hd a (by simp)
   subst e;simp[isDg]at this
 refine st42 ?_;unfold bd42 cf42;simp only[kB,ctlB]
 repeat' ((first|refine xSSe ?_|refine xOSe rfl ?_);(try simp only[ctlB]))
 refine xHSe ?_
 refine wpH_call0 (cutpP hne) ?_
 rintro r H1 ⟨rfl,rfl⟩
 clear hne
 (try simp only[ctlB])
 repeat' ((first|refine xSSe ?_|refine xOSe rfl ?_);(try simp only[ctlB]))
 refine xCSe (fun h=>?_) (fun h=>?_)
 ·simp only[decide_eq_true_eq]at h;omega
 clear h
 have hnn:¬ l=[]:=by rintro rfl;simp at h1
 have hh2:¬ (((l.getD 0 0).toNat:Nat):Int)=48:=by omega
 (try simp only[ctlB])
 refine xCSe (fun h=>?_) (fun h=>?_)
 ·simp only[Bool.false_eq_true]at h
 clear h hh hh2 hnn
 (try simp only[ctlB])
 repeat' ((first|refine xSSe ?_|refine xOSe rfl ?_);(try simp only[ctlB]))
 refine aw_loop' (fun m S H'=>Ext H H'∧∃(i:Nat) (q:Value),m+i≤l.length∧l.length≤m+i∧H'.get H.length=some [.bool false,.slice none 0 0]∧H'.get (H.length+1)=some [strV l,.int .i64 (i:Nat)]∧SlW H' q (limbs (numB 10 (dgt (l.take i))))∧(∃(z:Nat→Value),S=[strV l,.pointer (some ⟨H.length,0,none⟩),.int .i64 0,strV l,.bool false,q,z 6,z 7,.pointer (some ⟨H.length+1,0,some 0⟩),z 9,z 10,z 11])) l.length ?_ ?_
 ·exact⟨Ext.app _ _,0,_,by omega,by omega,get_app0,by rw[get_appS];rfl,.inl ⟨rfl,by simp[numB,dgt,digs_zero]⟩,exZSb rfl⟩
 rintro m S H' ⟨hx,i,q,hm1,hm2,g0,g1,hq,z,rfl⟩
 have hlen:=hx.1
 have hl1:=Heap.get_lt g1
 by_cases hi:i<l.length
 ·have hbi:isDg (l.getD i 0)=true:=by
   rw[List.getD_eq_getElem?_getD,List.getElem?_eq_getElem hi];exact hd _ (List.getElem_mem _)
  have hdt:dgt (l.take (i+1))=dgt (l.take i)++[(l.getD i 0).toNat-48]:=by
   unfold dgt
   rw[List.take_add_one,List.getElem?_eq_getElem hi,List.getD_eq_getElem?_getD,List.getElem?_eq_getElem hi]
   simp only[Option.toList_some,List.map_append,List.map_cons,List.map_nil,Option.getD_some]
  have hpw:∀j,j≤l.length→(limbs (numB 10 (dgt (l.take j)))).length≤j:=fun j hj=>by
   have e:dgt (l.take j)=(dgt l).take j:=by unfold dgt;rw[List.map_take]
   rw[e]
   exact limbs_len (Nat.lt_of_lt_of_le (numB_lt (dgt_lt hd) j (by simpa[dgt]using hj)) (Nat.pow_le_pow_left (by unfold W32;omega) j))
  have hp1:=hpw i (by omega)
  have hp2:=hpw (i+1) (by omega)
  clear hpw
  generalize hB:l.getD i 0=bt at *
  have hbr:48≤bt.toNat∧bt.toNat≤57:=by simpa[isDg]using hbi
  clear hbi
  rw[hdt,numB_snoc]at hp2
  generalize hN:numB 10 (dgt (l.take i))=N at *
  obtain⟨x,hx1,hx2⟩:∃x:Nat,bt.toNat≤x+48∧x+48≤bt.toNat:=⟨bt.toNat-48,by omega,by omega⟩
  have hxe:bt.toNat-48=x:=by omega
  rw[hxe]at hdt hp2
  have hs:=hs_snx' (lo:=lo) (z:=0) (by omega) g1 hi (by rw[hB];omega)
  rw[hB]at hs
  have exi:IntKind.i32.wrap ((bt.toNat:Int)-48)=(x:Nat):=by
   rw[show(bt.toNat:Int)-48=(x:Nat) by omega]
   simp[IntKind.wrap,IntKind.bits,IntKind.signed];omega
  have ewx:=wrap_u32' (p:=x) (by omega)
  (try simp only[ctlB])
  repeat' ((first|refine xSSe ?_|refine xOSe rfl ?_);(try simp only[ctlB]))
  refine xCSe (fun h=>?_) (fun h=>?_)
  ·clear h
   (try simp only[ctlB])
   repeat' ((first|refine xSSe ?_|refine xOSe rfl ?_);(try simp only[ctlB]))
   refine xCSe (fun h=>?_) (fun h=>?_)
   ·simp only[Bool.or_eq_true,decide_eq_true_eq]at h;omega
   clear h
   (try simp only[ctlB])
   repeat' ((first|refine xSSe ?_|refine xOSe rfl ?_);(try simp only[ctlB]))
   have hqs:=sl_setx (c':=[strV l,.int .i64 ((i+1:Nat):Int)]) hq g1 rfl (fun x hx a=>by simp at hx;rcases hx with rfl|rfl<;>simp)
   have g1s:=get_set_self (H:=H') (i:=H.length+1) (c:=[strV l,.int .i64 ((i+1:Nat):Int)]) (by omega)
   have g0s:=(get_set_ne (H:=H') (i:=H.length+1) (j:=H.length) (x:=some [strV l,.int .i64 ((i+1:Nat):Int)]) (by omega)).trans g0
   have hxs:=hx.set (i:=H.length+1) (x:=some [strV l,.int .i64 ((i+1:Nat):Int)]) (by omega)
   clear g0 g1 hq hs hx
   have hls:List.length (H'.set (H.length+1) (some [strV l,.int .i64 ((i+1:Nat):Int)]))=H'.length:=by simp
   generalize H'.set (H.length+1) (some [strV l,.int .i64 ((i+1:Nat):Int)])=H2 at *
   refine xHSe ?_
   refine wpH_call0 (scale (by_:=10) (by omega) hqs (by omega) (limbs_lt N) (by unfold W32;omega) (by unfold W32;omega)) ?_
   rw[limbs_scale (by unfold W32;omega) (by unfold W32;omega)]
   rintro r H3 ⟨hx3,hr⟩
   (try simp only[ctlB])
   repeat' ((first|refine xSSe ?_|refine xOSe rfl ?_);(try simp only[ctlB]))
   simp only[loopQ_n]
   refine⟨m-1,by omega,hxs.trans hx3,i+1,r,by omega,by omega,hx3.get g0s,hx3.get g1s,?_,exZSb rfl⟩
   rw[hdt,numB_snoc,hN];exact hr
  ·cases h
 ·have hi2:l.length≤i:=by omega
  rw[List.take_of_length_le hi2]at hq
  have hs:=hs_sne' (lo:=lo) (z:=0) (by omega) g1 hi2
  (try simp only[ctlB])
  repeat' ((first|refine xSSe ?_|refine xOSe rfl ?_);(try simp only[ctlB]))
  refine xCSe (fun h=>?_) (fun h=>?_)
  ·cases h
  clear h
  (try simp only[ctlB])
  refine xHSe ?_
  refine wpH_call0 (integerP (by omega) hq) ?_
  rintro r H2 ⟨hx2,mm,rfl,hmm⟩
  have hm0:=hmm
  obtain⟨am,cm,rfl⟩:=hmm.len
  have g0:=hx2.get g0
  have hl2:=Heap.get_lt g0
  (try simp only[ctlB])
  repeat' ((first|refine xSSe ?_|refine xOSe rfl ?_);(try simp only[ctlB]))
  refine xRSe ?_
  exact⟨(hx.trans hx2).set (Nat.le_refl _),_,rfl,_,rfl,sl_setx hm0 g0 rfl (fun x hx a=>by simp at hx;rcases hx with rfl|rfl<;>simp)⟩
end Go.Proofs.YtgpolmomghejoaaDoor
