/- Lemmas. -/
import Derived.Test.YtgpolmomghejoaaDoorE9
import Derived.Test.YtgpolmomghejoaaDoorE10
set_option linter.unusedVariables false
set_option linter.unusedSimpArgs false
set_option linter.unusedSectionVars false
namespace Go.Proofs.YtgpolmomghejoaaDoor
def dD(B N:Nat):List Nat:=if h:N=0∨B<2 then[] else N%B::dD B (N/B)
 termination_by N
 decreasing_by exact Nat.div_lt_self (by omega) (by omega)
def dA(B:Nat):List Nat→Nat
 | []=>0
 | d::l=>d+B*dA B l
def eZ:List Nat→List Nat
 | []=>[]
 | d::l=>match eZ l with
  | []=>if d=0 then[] else[d]
  | r=>d::r
theorem bM(B:Nat):dD B 0=[]:=by unfold dD;simp
theorem cJ{B N:Nat}(hB:2≤B)(h:N≠0):dD B N=N%B::dD B (N/B):=by
 rw[dD];rw[dif_neg (by omega)]
theorem oZ{B:Nat}(hB:2≤B){p:Nat→Prop}(h0:p 0)(hs:∀N,N≠0→p (N/B)→p N):∀N,p N:=by
 intro N
 induction N using Nat.strongRecOn with
 | _ N ih=>
  by_cases h:N=0
  ·rw[h];exact h0
  ·exact hs N h (ih _ (Nat.div_lt_self (by omega) (by omega)))
theorem eT{B:Nat}(hB:2≤B):∀N,dA B (dD B N)=N:=by
 refine oZ hB (by rw[bM];rfl) fun N h ih=>?_;rw[cJ hB h,dA,ih];exact Nat.mod_add_div N B
theorem mA{B:Nat}(hB:2≤B):∀N,∀d ∈ dD B N,d<B:=by
 refine oZ hB (by rw[bM];simp) fun N h ih=>?_;rw[cJ hB h];intro d hd;rcases List.mem_cons.1 hd with rfl|hd
 ·exact Nat.mod_lt _ (by omega)
 ·exact ih d hd
theorem qA{B:Nat}(hB:2≤B):∀{l:List Nat},dA B l=0→eZ l=[]
 | [],_=>rfl
 | d::l,h=>by
  simp only[dA]at h;have h1:d=0:=by omega
  have h2:dA B l=0:=by
   have:B*dA B l=0:=by omega
   rcases Nat.mul_eq_zero.1 this with h|h
   ·omega
   ·exact h
  simp[eZ,qA hB h2,h1]
theorem mG{B:Nat}(hB:2≤B):∀{l:List Nat},(∀d ∈ l,d<B)→dD B (dA B l)=eZ l
 | [],_=>by simp[dA,bM,eZ]
 | d::l,h=>by
  have hd:=h d (by simp);have ih:=mG hB (fun x hx=>h x (by simp[hx]):∀d ∈ l,d<B);by_cases h0:dA B (d::l)=0
  ·rw[h0,bM,qA hB h0]
  ·rw[cJ hB h0]
   have h1:dA B (d::l)%B=d:=by simp[dA,Nat.mod_eq_of_lt hd]
   have h2:dA B (d::l)/B=dA B l:=by
    rw[dA,Nat.add_mul_div_left _ _ (by omega),Nat.div_eq_of_lt hd,Nat.zero_add]
   rw[h1,h2,ih];simp only[eZ];split
   ·rename_i e
    have:dA B l=0:=by
     rw[←ih]at e;have:=eT hB (dA B l);rw[e]at this;exact this.symm
    have hd0:d≠0:=by
     intro e;apply h0;rw[dA,e,this,Nat.mul_zero]
    rw[if_neg hd0,e]
   ·rfl
theorem uE{B:Nat}:∀{l:List Nat},(∀d ∈ l,d<B)→dA B l<B^l.length
 | [],_=>by simp[dA]
 | d::l,h=>by
  have hd:=h d (by simp);have ih:=uE (fun x hx=>h x (by simp[hx]):∀d ∈ l,d<B);simp only[dA,List.length_cons,Nat.pow_succ];have h1:B*dA B l+B≤B^l.length*B:=by
   rw[Nat.mul_comm (B^l.length) B,←Nat.mul_succ];exact Nat.mul_le_mul_left B ih
  omega
theorem cz{B:Nat}(hB:2≤B):∀(k N:Nat),N<B^k→(dD B N).length≤k
 | 0,N,h=>by
  have:N=0:=by simpa using h
  rw[this,bM];simp
 | k+1,N,h=>by
  by_cases h0:N=0
  ·rw[h0,bM];simp
  ·rw[cJ hB h0,List.length_cons]
   have:=cz hB k (N/B) (by rw[Nat.div_lt_iff_lt_mul (by omega)];rwa [Nat.pow_succ]at h);omega
theorem qD{B:Nat}(hB:2≤B):∀N,(dD B N).getLast?≠some 0:=by
 refine oZ hB (by rw[bM];simp) fun N h ih=>?_;rw[cJ hB h];by_cases h0:N/B=0
 ·rw[h0,bM]
  simp;have:N<B:=by
   rcases Nat.lt_or_ge N B with h1|h1
   ·exact h1
   ·have:=Nat.div_pos h1 (by omega);omega
  rw[Nat.mod_eq_of_lt this];exact h
 ·rw[cJ hB h0]at ih ⊢
  simpa using ih
theorem tO{l:List Nat}{n:Nat}(hn:n≤l.length)(hz:∀i,n≤i→i<l.length→l.getD i 0=0)(hl:n=0∨l.getD (n-1) 0≠0):eZ l=l.take n:=by
 induction l generalizing n with
 | nil=>simp at hn;subst hn;rfl
 | cons d l ih=>
  cases n with
  | zero=>
   have h1:=ih (n:=0) (Nat.zero_le _) (fun i _ hi=>by have:=hz (i+1) (Nat.zero_le _) (by simp;omega);simpa using this) (.inl rfl);have h2:=hz 0 (Nat.le_refl _) (by simp);simp at h2;simp only[eZ,h1,List.take_zero,h2,if_true]
  | succ n=>
   simp at hn;have h1:=ih (n:=n) hn (fun i hi hl=>by have:=hz (i+1) (by omega) (by simp;omega);simpa using this) (by
    rcases hl with h|h
    ·omega
    ·cases n with
     | zero=>exact .inl rfl
     | succ n=>right;simpa using h)
   simp only[eZ,h1,List.take_succ_cons];split
   ·rename_i e
    have hn0:n=0:=by
     rcases List.take_eq_nil_iff.1 e with h|h
     ·exact h
     ·rw[h]at hn;simpa using hn
    subst hn0;have:d≠0:=by
     rcases hl with h|h
     ·omega
     ·simpa using h
    rw[if_neg this,e]
   ·rfl
def jb(B by_:Nat):List Nat→Nat→List Nat
 | [],c=>[c]
 | a::l,c=>(a*by_+c)%B::jb B by_ l ((a*by_+c)/B)
theorem rL(B by_:Nat):∀(l:List Nat) (c:Nat),dA B (jb B by_ l c)=dA B l*by_+c
 | [],c=>by simp[jb,dA]
 | a::l,c=>by
  simp only[jb,dA,rL B by_ l];have:=Nat.mod_add_div (a*by_+c) B;rw[Nat.mul_add,Nat.add_mul,←Nat.mul_assoc];omega
theorem qG{B a by_ c:Nat}(ha:a<B)(hb:by_<B)(hc:c<B):(a*by_+c)/B<B:=by
 rw[Nat.div_lt_iff_lt_mul (by omega)];have:a*by_≤(B-1)*(B-1):=Nat.mul_le_mul (by omega) (by omega);obtain⟨b,rfl⟩:∃b,B=b+1:=⟨B-1,by omega⟩;simp at this;rw[Nat.succ_mul_succ];omega
theorem qx{B by_:Nat}(hb:by_<B):∀(l:List Nat) (c:Nat),(∀d ∈ l,d<B)→c<B→∀d ∈ jb B by_ l c,d<B
 | [],c,_,hc=>by simp[jb,hc]
 | a::l,c,h,hc=>by
  intro d hd;simp only[jb,List.mem_cons]at hd;rcases hd with rfl|hd
  ·exact Nat.mod_lt _ (by omega)
  ·exact qx hb l _ (fun x hx=>h x (by simp[hx])) (qG (h a (by simp)) hb hc) d hd
theorem rM(B by_:Nat):∀(l:List Nat) (c:Nat),(jb B by_ l c).length=l.length+1
 | [],c=>rfl
 | a::l,c=>by simp[jb,rM B by_ l]
def fp(B by_:Nat):List Nat→List Nat×Nat
 | []=>([],0)
 | a::l=>(((fp B by_ l).2*B+a)/by_::(fp B by_ l).1,((fp B by_ l).2*B+a)%by_)
theorem rH{B by_:Nat}(hb:0<by_):∀l,dA B (fp B by_ l).1=dA B l/by_∧(fp B by_ l).2=dA B l%by_
 | []=>by simp[fp,dA]
 | a::l=>by
  obtain⟨h1,h2⟩:=rH (B:=B) hb l;simp only[fp,dA,h1,h2];have e:a+B*dA B l=(dA B l%by_*B+a)+by_*(B*(dA B l/by_)):=by
   have:=Nat.mod_add_div (dA B l) by_;have h3:B*dA B l=B*(dA B l%by_)+B*(by_*(dA B l/by_)):=by rw[←Nat.mul_add,this]
   rw[h3,Nat.mul_comm (dA B l%by_) B,Nat.mul_left_comm by_ B];omega
  constructor
  ·rw[e,Nat.add_mul_div_left _ _ hb]
  ·rw[e,Nat.add_mul_mod_self_left]
theorem oh(B by_:Nat):∀l,(fp B by_ l).1.length=l.length
 | []=>rfl
 | a::l=>by simp[fp,oh B by_ l]
theorem rR{B by_:Nat}(hb:0<by_):∀l,(fp B by_ l).2<by_
 | []=>hb
 | a::l=>Nat.mod_lt _ hb
theorem qh{B by_:Nat}(hb:0<by_):∀l,(∀d ∈ l,d<B)→∀d ∈ (fp B by_ l).1,d<B
 | [],_=>by simp[fp]
 | a::l,h=>by
  intro d hd;simp only[fp,List.mem_cons]at hd;rcases hd with rfl|hd
  ·have h1:=rR (B:=B) hb l
   have h2:=h a (by simp);rw[Nat.div_lt_iff_lt_mul hb];have:((fp B by_ l).2+1)*B≤by_*B:=Nat.mul_le_mul_right B h1;rw[Nat.add_mul,Nat.one_mul]at this;rw[Nat.mul_comm B by_];omega
  ·exact qh hb l (fun x hx=>h x (by simp[hx])) d hd
abbrev W32:Nat:=4294967296
abbrev aj(N:Nat):List Nat:=dD W32 N
theorem iE(N:Nat):∀d ∈ aj N,d<W32:=mA (by decide) N
theorem mq{N by_ c:Nat}(hb:by_<W32)(hc:c<W32):eZ (jb W32 by_ (aj N) c)=aj (N*by_+c):=by
 rw[←mG (by decide) (qx hb _ _ (iE N) hc),rL,eT (by decide)]
theorem pQ{N by_:Nat}(hb:0<by_):eZ (fp W32 by_ (aj N)).1=aj (N/by_)∧(fp W32 by_ (aj N)).2=N%by_:=by
 obtain⟨h1,h2⟩:=rH (B:=W32) hb (aj N);rw[eT (by decide)]at h1 h2;exact⟨by rw[←mG (by decide) (qh hb _ (iE N)),h1],h2⟩
open Go.Abs
set_option maxRecDepth 20000
abbrev dX(n:Nat):Value:=.int .u32 (n:Nat)
abbrev SlW:=Sl dX
theorem Ej{α:Type}{enc:α→Value}{H:Heap}{b o:Nat}{sp:Option Nat}{xs:List Value}{l:List α}{n cap:Nat}(hb:H.get b=some xs)(hx:(xs.drop o).take l.length=l.map enc)(hl:o+l.length≤xs.length)(hsp:sp=none∨sp=some 1)(hn:n≤l.length)(hc:n≤cap) :
  Sl enc H (.slice (some ⟨b,o,sp⟩) n cap) (l.take n):=by
 refine .inr ⟨b,o,sp,cap,xs,by rw[List.length_take,Nat.min_eq_left hn],hb,?_,by rw[List.length_take];omega,hsp,by rw[List.length_take];omega⟩;rw[List.length_take,Nat.min_eq_left hn];have:((xs.drop o).take l.length).take n=(l.map enc).take n:=by rw[hx]
 rwa [List.take_take,Nat.min_eq_left hn,←List.map_take]at this
set_option linter.defProp false in
def B4:=And.intro @Int.cast_ofNat_Int @ite_self.{1}
theorem lL{P:Prop}(h:P:=by simp(disch:=first|omega|(simp only[aD];omega))only[evB,B4,Nat.reduceAdd,Nat.reduceBEq,Int.reduceToNat, *];rfl):P:=h
theorem j6{cp:FuncId→Option CF}{lo:Nat}{l:List (Nat×E)}{chk:List E}{Q:aX}{S:List Value}{H:Heap}{vs:List (Nat×Value)}{S':List Value}(k:Q .normal S' H)(h:evSets S H l=some vs:=by exact lL)(hc:evChk S H chk=true:=by simp(disch:=first|omega|(simp only[aD];omega))only[evB,B4,Nat.reduceAdd,Nat.reduceBEq,Int.reduceToNat, *])(hS:setAll S vs=S':=by exact lL):wpS cp lo (.sets l chk) Q S H:=eF h hc hS k
theorem Eg{cp:FuncId→Option CF}{lo:Nat}{l:List (Nat×E)}{chk:List E}{Q:aX}{S:List Value}{H:Heap}{vs:List (Nat×Value)}{dst:Option Nat}{o:HOp}{a:E}{xs:List Value}(k:wpH cp lo o xs H fun v H'=>Q .normal (setD (setAll S vs) dst v) H')(h:evSets S H l=some vs:=by exact lL)(hc:evChk S H chk=true:=by simp(disch:=first|omega|(simp only[aD];omega))only[evB,B4,Nat.reduceAdd,Nat.reduceBEq,Int.reduceToNat, *])(ha:ev S H a=some xs:=by exact lL):wpS cp lo (.hv l chk [] dst o a) Q S H:=gG h hc ha k
theorem j5{cp:FuncId→Option CF}{lo:Nat}{l:List (Nat×E)}{chk:List E}{Q:aX}{S:List Value}{H:Heap}{vs:List (Nat×Value)}{dst:Option Nat}{o:HOp}{a:E}{xs:List Value}{S':List Value}{H':Heap}{v:Value}(hcall:o.isCall=false)(k:Q .normal S' H')(h:evSets S H l=some vs:=by exact lL)(hc:evChk S H chk=true:=by simp(disch:=first|omega|(simp only[aD];omega))only[evB,B4,Nat.reduceAdd,Nat.reduceBEq,Int.reduceToNat, *])(ha:ev S H a=some xs:=by exact lL)(ho:aR lo o xs H=some (v,H'):=by exact lL)(hS:setD (setAll S vs) dst v=S':=by exact lL):wpS cp lo (.hv l chk [] dst o a) Q S H:=eV hcall h hc ha ho hS k
theorem DI{cp:FuncId→Option CF}{lo:Nat}{c:E}{a b:Stm}{Q:aX}{S:List Value}{H:Heap}{t:Bool}(k1:t=true→wpS cp lo a Q S H)(k2:t=false→wpS cp lo b Q S H)(h:ev1 S H c=some (.bool t):=by exact lL):wpS cp lo (.cond c a b) Q S H:=aF h k1 k2
theorem aE{S:List Value}{F:(Nat→Value)→List Value}(h:S=F (fun k=>S.getD k undef)):∃z,S=F z:=⟨_,h⟩
theorem rp{cf:CF}{R:Value→Heap→Prop}{S:List Value}{H:Heap}{vs:List Value}(k:R (aP vs) H)(h:evList S H cf.res=some vs:=by exact lL):aS cf R .ret S H:=eM h k
theorem trim{lo:Nat}{H:Heap}{v:Value}{l:List Nat}(hl:SlW H v l)(hb:l.length≤1000000000)(hd:∀d ∈ l,d<W32):Ev cp lo 79 [v] H (fun r H'=>H'=H∧SlW H r (eZ l)∧∀a n c,v=.slice a n c→r=.slice a (eZ l).length c):=by
 rcases hl with ⟨rfl,rfl⟩|⟨b,o,sp,cap,xs,rfl,hg,hx,hxl,hsp,hcap⟩
 ·refine FD ?_;unfold B9 w9;simp only[kB,aA]
  repeat' ((first|refine j6 ?_|refine j5 rfl ?_);(try simp only[aA]))
  refine bk (fun m S H'=>H=H'∧S=[.slice none 0 0,.slice none 0 0,.int .i64 0]) 0 ⟨rfl,rfl⟩ ?_;rintro m S H' ⟨rfl,rfl⟩;(try simp only[aA]);refine DI (fun h=>?_) (fun h=>?_)
  ·simp at h
  clear h;(try simp only[aA]);repeat' ((first|refine j6 ?_|refine j5 rfl ?_);(try simp only[aA]))
  refine rp ?_;exact⟨rfl,.inl ⟨rfl,rfl⟩,fun a n c e=>by cases e;rfl⟩
 have hat:∀i,i<l.length→xs[o+i]?=some (dX (l.getD i 0)):=by
  intro i hi;have e:((xs.drop o).take l.length)[i]?=(l.map dX)[i]?:=by rw[hx]
  rw[List.getElem?_take,if_pos hi,List.getElem?_drop]at e;rw[e,List.getElem?_map,List.getElem?_eq_getElem hi,List.getD_eq_getElem?_getD,List.getElem?_eq_getElem hi];rfl
 refine FD ?_;unfold B9 w9;simp only[kB,aA];repeat' ((first|refine j6 ?_|refine j5 rfl ?_);(try simp only[aA]))
 refine bk (fun m S H'=>H=H'∧m≤l.length∧(∀i,m≤i→i<l.length→l.getD i 0=0)∧∃z1,S=[.slice (some ⟨b,o,sp⟩) l.length cap,z1,.int .i64 (m:Nat)]) l.length ?_ ?_
 ·exact⟨rfl,Nat.le_refl _,fun i hi h=>by omega,_,rfl⟩
 rintro m S H' ⟨rfl,hm,hz,z1,rfl⟩;have hfin:(m=0∨l.getD (m-1) 0≠0)→SlW H (.slice (some ⟨b,o,sp⟩) m cap) (eZ l)∧∀a n c,Value.slice (some ⟨b,o,sp⟩) l.length cap=.slice a n c→Value.slice (some ⟨b,o,sp⟩) m cap=.slice a (eZ l).length c:=fun h=>by
  rw[tO hm hz h];exact⟨Ej hg hx hxl hsp hm (by omega),fun a n c e=>by cases e;rw[List.length_take,Nat.min_eq_left hm]⟩
 by_cases hm0:m=0
 ·subst hm0
  have hfin:=hfin (.inl rfl);(try simp only[aA]);refine DI (fun h=>?_) (fun h=>?_)
  ·simp at h
  clear h;(try simp only[aA]);rcases hsp with rfl|rfl
  ·repeat' ((first|refine j6 ?_|refine j5 rfl ?_);(try simp only[aA]))
   refine rp ?_;exact⟨rfl,by simpa only[aP,ite_self]using hfin⟩
  ·repeat' ((first|refine j6 ?_|refine j5 rfl ?_);(try simp only[aA]))
   refine rp ?_;exact⟨rfl,by simpa only[aP,ite_self]using hfin⟩
 have hati:=hat (m-1) (by omega);have e1:((m:Int)-1)=((m-1:Nat):Int):=by omega
 have hmp:(0:Int)<m:=by omega
 (try simp only[aA]);refine DI (fun h=>?_) (fun h=>?_)
 ·have hc:l.getD (m-1) 0=0:=by simp only[decide_eq_true_eq]at h;omega
  clear h hat hati hfin;(try simp only[aA]);repeat' ((first|refine j6 ?_|refine j5 rfl ?_);(try simp only[aA]))
  simp only[dP];refine⟨m-1,by omega,by trivial,by omega,fun i hi hl=>?_,_,rfl⟩;by_cases e:i=m-1
  ·rw[e];exact hc
  ·exact hz i (by omega) hl
 ·have hfin:=hfin (.inr (fun e=>by rw[e]at h;simp at h))
  clear h hat hati;(try simp only[aA]);rcases hsp with rfl|rfl
  ·repeat' ((first|refine j6 ?_|refine j5 rfl ?_);(try simp only[aA]))
   refine rp ?_;exact⟨rfl,by simpa only[aP,ite_self]using hfin⟩
  ·repeat' ((first|refine j6 ?_|refine j5 rfl ?_);(try simp only[aA]))
   refine rp ?_;exact⟨rfl,by simpa only[aP,ite_self]using hfin⟩
theorem mC(p:Nat):IntKind.u32.wrap (p:Nat)=((p%W32:Nat):Int):=by
 simp[IntKind.wrap,IntKind.bits,IntKind.signed]
theorem gz{p:Nat}(h:p<4294967296):IntKind.u32.wrap (p:Nat)=((p:Nat):Int):=by rw[mC,Nat.mod_eq_of_lt h]
theorem D0(p:Nat):Int.fdiv (p:Nat) (2^min 32 IntKind.u64.bits)=((p/W32:Nat):Int):=by
 have:(2:Int)^min 32 IntKind.u64.bits=((W32:Nat):Int):=by decide
 rw[this,Int.fdiv_eq_ediv_of_nonneg _ (by omega)];rfl
theorem split{lo:Nat}{H:Heap}{p:Nat}(hlo:lo≤H.length)(hp:p<18446744073709551616):Ev cp lo 78 [.int .u64 (p:Nat)] H (fun r H'=>Ext H H'∧r=.agg #[dX (p%W32),dX (p/W32)]):=by
 refine HW ?_;unfold Cc yY;simp only[kB,aA];repeat' ((first|refine j6 ?_|refine j5 rfl ?_);(try simp only[aA]))
 refine rp ?_;rw[D0,mC,mC,Nat.mod_eq_of_lt (show p/W32<W32 by unfold W32;omega)];exact⟨Ext.push _ _,rfl⟩
theorem xO(n:Nat):bV [.int .u32 0] n=(List.replicate n 0).map dX:=by
 induction n with
 | zero=>rfl
 | succ n ih=>rw[List.replicate_succ,List.map_cons,←ih];rfl
theorem r7{d z:List Nat}{x y:Nat}:((d++x::z).map dX).set d.length (dX y)=((d++[y])++z).map dX:=by
 rw[←List.map_set,List.set_append_right _ _ (Nat.le_refl _)];simp
theorem scale{lo:Nat}{H:Heap}{v:Value}{l:List Nat}{by_ plus:Nat}(hlo:lo≤H.length)(hl:SlW H v l)(hb:l.length≤1000000)(hd:∀d ∈ l,d<W32)(hby:by_<W32)(hp:plus<W32) :
  Ev cp lo 58 [v,dX by_,dX plus] H (fun r H'=>Ext H H'∧SlW H' r (eZ (jb W32 by_ l plus))):=by
 have hl0:=hl;obtain⟨ad,c0,rfl⟩:=hl.len;have en:((l.length:Int)+1).toNat=l.length+1:=by omega
 refine Lf ?_;unfold DL zs;simp only[kB,aA];repeat' ((first|refine j6 ?_|refine j5 rfl ?_);(try simp only[aA]))
 refine ai (fun i S H'=>Ext H H'∧∃(d:List Nat) (c:Nat),i≤d.length∧d.length≤i∧H'.get H.length=some ((d++List.replicate (l.length+1-i) 0).map dX)∧c<W32∧(d++jb W32 by_ (l.drop i) c=jb W32 by_ l plus∨False)∧∃(z:Nat→Value),S=[.slice ad l.length c0,dX by_,z 2,z 3,.slice (some ⟨H.length,0,none⟩) (l.length+1) (l.length+1),dX c,z 6,z 7,z 8,z 9,.slice ad l.length c0,.int .i64 (l.length:Nat),.int .i64 (i:Nat),z 13,z 14,z 15,z 16,z 17]) l.length ?_ ?_ ?_ ?_
 ·exact⟨Ext.push _ _,[],plus,by simp,by simp,by rw[aQ,xO];rfl,hp,.inl rfl,aE rfl⟩
 ·rintro i S H' hi ⟨hx,d,c,-,-,-,-,-,z,rfl⟩
  exact⟨_,lL,by simp⟩
 ·rintro i S H' hi ⟨hx,d,c,hd1,hd2,hg,hc,hs,z,rfl⟩
  obtain⟨b,o,sp,cap,xs,e,g,hat,hxl⟩:=hl0.els 0 (by omega);cases e;have g:=hx.get g;have hati:=hat i hi;clear hat;generalize ha:l.getD i 0=a at hati;have hal:a<W32:=by
   rw[←ha,List.getD_eq_getElem?_getD,List.getElem?_eq_getElem hi];exact hd _ (List.getElem_mem hi)
  have hm:a*by_≤4294967295*4294967295:=Nat.mul_le_mul (by unfold W32 at hal;omega) (by unfold W32 at hby;omega);have hm2:(a:Int)*by_=((a*by_:Nat):Int):=by simp
  unfold W32 at hc hal hby;have hlen:=hx.1;have hl1:=Heap.get_lt hg;(try simp only[aA]);repeat' ((first|refine j6 ?_|refine j5 rfl ?_);(try simp only[aA]))
  refine Eg ?_;have ep:((a*by_:Nat):Int)+(c:Nat)=((a*by_+c:Nat):Int):=by omega
  rw[ep];refine aC (split (by omega) (by omega)) ?_;rintro v H1 ⟨hx1,rfl⟩;have hg1:=hx1.get hg;have hl2:=Heap.get_lt hg1;have hlen1:=hx1.1;generalize hX:(d++List.replicate (l.length+1-i) 0).map dX=X at hg1;have hXl:i<X.length:=by rw[←hX];simp;omega
  clear hati;(try simp only[aA]);repeat' ((first|refine j6 ?_|refine j5 rfl ?_);(try simp only[aA]))
  refine uQ (lL) (lL) (.inr ?_) ?_
  ·simp[bE];omega
  (try simp only[aA]);repeat' ((first|refine j6 ?_|refine j5 rfl ?_);(try simp only[aA]))
  have hXs:X.set i (dX ((a*by_+c)%W32))=((d++[(a*by_+c)%W32])++List.replicate (l.length+1-(i+1)) 0).map dX:=by
   rw[←hX,show l.length+1-i=(l.length+1-(i+1))+1 by omega,List.replicate_succ,show i=d.length by omega,r7]
  refine⟨((hx.trans hx1).set (Nat.le_refl _)).push' _,d++[(a*by_+c)%W32],(a*by_+c)/W32,by simp;omega,by simp;omega,?_,?_,?_,aE (by first|rfl|(simp only[Int.natCast_add,Int.natCast_one];rfl)|simp only[Int.natCast_add,Int.natCast_one])⟩
  ·rw[iV (by simpa using hl2),aN hl2,hXs]
  ·exact qG hal hby hc
  ·left
   have hs:=hs.resolve_right id;rw[List.drop_eq_getElem_cons hi,jb]at hs;have e2:l[i]=a:=by rw[←ha,List.getD_eq_getElem?_getD,List.getElem?_eq_getElem hi];rfl
   rw[e2]at hs;rw[List.append_assoc];exact hs
 ·rintro S H' ⟨hx,d,c,hd1,hd2,hg,hc,hs,z,rfl⟩
  have hs:=hs.resolve_right id;rw[List.drop_length,jb]at hs;have hX:(d++List.replicate (l.length+1-l.length) 0).map dX=(d++0::[]).map dX:=by rw[show l.length+1-l.length=1 by omega];rfl
  rw[hX]at hg;clear hX;generalize hX:(d++0::[]).map dX=X at hg;have hXl:l.length<X.length:=by rw[←hX];simp;omega
  have hl1:=Heap.get_lt hg;(try simp only[aA]);repeat' ((first|refine j6 ?_|refine j5 rfl ?_);(try simp only[aA]))
  have hXs:X.set l.length (dX c)=(jb W32 by_ l plus).map dX:=by
   rw[←hX,show l.length=d.length by omega,r7,List.append_nil,hs]
  rw[hXs];refine Eg ?_;have hlen:=rM W32 by_ l plus;refine aC (trim (l:=jb W32 by_ l plus) (Sl.whole (aN (by omega)) hlen) (by omega) (qx hby l plus hd hp)) ?_;rintro v H2 ⟨rfl,hv,hve⟩;(try simp only[aA]);repeat' ((first|refine j6 ?_|refine j5 rfl ?_);(try simp only[aA]))
  refine rp ?_;exact⟨hx.set (Nat.le_refl _),hv⟩
theorem Cr{r a:Nat}(hr:r<W32)(ha:a<W32):IntKind.u64.wrap ((BitVec.ofInt IntKind.u64.bits (IntKind.u64.wrap ((r:Int)*2^min 32 IntKind.u64.bits)) ||| BitVec.ofInt IntKind.u64.bits (a:Int)).toNat)=((r*W32+a:Nat):Int):=by
 have ew:IntKind.u64.wrap ((r:Int)*2^min 32 IntKind.u64.bits)=(r:Int)*2^min 32 64:=by
  have:(2:Int)^min 32 64=4294967296:=by decide
  show IntKind.u64.wrap ((r:Int)*2^min 32 64)=_;rw[this];unfold W32 at *;simp[IntKind.wrap,IntKind.bits,IntKind.signed];omega
 rw[ew];show IntKind.u64.wrap ((BitVec.ofInt 64 ((r:Int)*2^min 32 64) ||| BitVec.ofInt 64 (a:Int)).toNat)=((r*W32+a:Nat):Int);have e1:(r:Int)*2^min 32 64=((r*W32:Nat):Int):=by
  have:(2:Int)^min 32 64=((W32:Nat):Int):=by decide
  rw[this];simp
 rw[e1,BitVec.ofInt_natCast,BitVec.ofInt_natCast,BitVec.toNat_or,BitVec.toNat_ofNat,BitVec.toNat_ofNat];unfold W32 at *;rw[Nat.mod_eq_of_lt (by omega),Nat.mod_eq_of_lt (by omega)];have h:r*4294967296 ||| a=r*4294967296+a:=by
  have:=Nat.two_pow_add_eq_or_of_lt (i:=32) (b:=a) (by omega) r;rw[Nat.mul_comm];exact this.symm
 rw[h];simp[IntKind.wrap,IntKind.bits,IntKind.signed];omega
theorem FE{lo:Nat}{H:Heap}{v:Value}{l:List Nat}{by_:Nat}(hlo:lo≤H.length)(hl:SlW H v l)(hb:l.length≤1000000)(hd:∀d ∈ l,d<W32)(hby:by_<W32)(h0:0<by_) :
  Ev cp lo 61 [v,dX by_] H (fun r H'=>Ext H H'∧∃q,r=.tuple #[q,dX (fp W32 by_ l).2]∧SlW H' q (eZ (fp W32 by_ l).1)∧q=.slice (some ⟨H.length,0,none⟩) (eZ (fp W32 by_ l).1).length l.length):=by
 have hl0:=hl;obtain⟨ad,c0,rfl⟩:=hl.len;have en:((l.length:Int)).toNat=l.length:=by omega
 refine KY ?_;unfold En zR;simp only[kB,aA];repeat' ((first|refine j6 ?_|refine j5 rfl ?_);(try simp only[aA]))
 refine ai (fun i S H'=>Ext H H'∧H'.get H.length=some ((List.replicate (l.length-i) 0++(fp W32 by_ (l.drop (l.length-i))).1).map dX)∧∃(z:Nat→Value),S=[.slice ad l.length c0,dX by_,.slice (some ⟨H.length,0,none⟩) l.length l.length,dX (fp W32 by_ (l.drop (l.length-i))).2,.int .i64 ((l.length:Int)-1-(i:Nat)),z 5,z 6,z 7,z 8]) l.length ?_ ?_ ?_ ?_
 ·refine⟨Ext.push _ _,by rw[aQ,xO];simp[fp],aE ?_⟩
  simp[fp]
 ·rintro i S H' hi ⟨hx,-,z,rfl⟩
  exact⟨_,lL,by simp;omega⟩
 ·rintro i S H' hi ⟨hx,hg,z,rfl⟩
  obtain⟨b,o,sp,cap,xs,e,g,hat,hxl⟩:=hl0.els 0 (by omega);cases e;have g:=hx.get g;obtain⟨j,hj,hj2⟩:∃j,j+1+i≤l.length∧l.length≤j+1+i:=⟨l.length-1-i,by omega,by omega⟩;have hjl:j<l.length:=by omega
  have hati:=hat j hjl;clear hat;generalize ha:l.getD j 0=a at hati;have hal:a<W32:=by
   rw[←ha,List.getD_eq_getElem?_getD,List.getElem?_eq_getElem hjl];exact hd _ (List.getElem_mem hjl)
  have hdr:l.drop (l.length-(i+1))=a::l.drop (l.length-i):=by
   rw[show l.length-(i+1)=j by omega,show l.length-i=j+1 by omega,List.drop_eq_getElem_cons hjl];rw[←ha,List.getD_eq_getElem?_getD,List.getElem?_eq_getElem hjl];rfl
  have hrl:=rR (B:=W32) h0 (l.drop (l.length-i));have hql:=oh W32 by_ (l.drop (l.length-i));rw[List.length_drop]at hql;rw[hdr];simp only[fp];generalize (fp W32 by_ (l.drop (l.length-i))).1=q at *;generalize (fp W32 by_ (l.drop (l.length-i))).2=r at *;have hrW:r<W32:=by omega
  have hqt:(r*W32+a)/by_<W32:=by
   rw[Nat.div_lt_iff_lt_mul h0];have:(r+1)*W32≤by_*W32:=Nat.mul_le_mul_right W32 hrl;rw[Nat.add_mul,Nat.one_mul]at this;rw[Nat.mul_comm W32 by_];omega
  have hmt:(r*W32+a)%by_<by_:=Nat.mod_lt _ h0;have eo:=Cr hrW hal;generalize hT:r*W32+a=T at *;have ej:(l.length:Int)-1-(i:Nat)=(j:Nat):=by omega
  have hl1:=Heap.get_lt hg;generalize hX:(List.replicate (l.length-i) 0++q).map dX=X at hg;have hXl:j<X.length:=by rw[←hX];simp;omega
  unfold W32 at hal hby hrW hqt;(try simp only[aA]);have et:(T:Int).tdiv (by_:Int)=((T/by_:Nat):Int):=Int.ofNat_tdiv T by_;have em:(T:Int).tmod (by_:Int)=((T%by_:Nat):Int):=Int.ofNat_tmod T by_;generalize T/by_=Q at *;generalize T%by_=R at *;have hRt:R<4294967296:=by omega
  clear hmt;have ew1:=gz hqt;have ew2:=gz hRt;repeat' ((first|refine j6 ?_|refine j5 rfl ?_);(try simp only[aA]))
  have hXs:X.set j (dX Q)=(List.replicate (l.length-(i+1)) 0++Q::q).map dX:=by
   rw[←hX,show l.length-i=j+1 by omega,show l.length-(i+1)=j by omega,List.replicate_succ',←List.map_set,List.append_assoc,List.set_append_right _ _ (by simp)];simp
  have e2:(j:Int)-1=(l.length:Int)-1-((i+1:Nat):Int):=by omega
  exact⟨hx.set (Nat.le_refl _),by rw[aN hl1,hXs],aE (by rw[e2];rfl)⟩
 ·rintro S H' ⟨hx,hg,z,rfl⟩
  have e0:l.length-l.length=0:=by omega
  rw[e0]at hg ⊢;simp only[List.drop_zero,List.replicate_zero,List.nil_append]at hg ⊢;(try simp only[aA]);refine Eg ?_;have hlen:=oh W32 by_ l;refine aC (trim (l:=(fp W32 by_ l).1) (Sl.whole hg hlen) (by omega) (qh h0 l hd)) ?_;rintro v H2 ⟨rfl,hv,hve⟩;(try simp only[aA]);repeat' ((first|refine j6 ?_|refine j5 rfl ?_);(try simp only[aA]))
  refine rp ?_;exact⟨hx,_,rfl,hv,hve _ _ _ rfl⟩
theorem fB(a b:Value):(Value.agg #[a,b]).cells=#[a,b]:=rfl
abbrev ag(n:Nat):Value:=.int .i64 (n:Nat)
abbrev SlN:=Sl ag
def IsN(H:Heap)(v:Value)(N:Nat):Prop:=∃m,v=.agg #[.bool false,m]∧SlW H m (aj N)
theorem IsN.mono{H H':Heap}{v:Value}{N:Nat}(h:IsN H v N)(e:Ext H H'):IsN H' v N:=by
 obtain⟨m,rfl,h⟩:=h;exact⟨m,rfl,h.mono e⟩
set_option linter.defProp false in
def yD:=And.intro @Int.cast_ofNat_Int (And.intro @ite_self.{1} @fB)
theorem mK{P:Prop}(h:P:=by simp(disch:=first|omega|(simp only[aD];omega))only[evB,yD,Nat.reduceAdd,Nat.reduceBEq,Int.reduceToNat, *];rfl):P:=h
theorem eX{cp:FuncId→Option CF}{lo:Nat}{l:List (Nat×E)}{chk:List E}{Q:aX}{S:List Value}{H:Heap}{vs:List (Nat×Value)}{S':List Value}(k:Q .normal S' H)(h:evSets S H l=some vs:=by exact mK)(hc:evChk S H chk=true:=by simp(disch:=first|omega|(simp only[aD];omega))only[evB,yD,Nat.reduceAdd,Nat.reduceBEq,Int.reduceToNat, *])(hS:setAll S vs=S':=by exact mK):wpS cp lo (.sets l chk) Q S H:=eF h hc hS k
theorem pJ{cp:FuncId→Option CF}{lo:Nat}{l:List (Nat×E)}{chk:List E}{Q:aX}{S:List Value}{H:Heap}{vs:List (Nat×Value)}{dst:Option Nat}{o:HOp}{a:E}{xs:List Value}(k:wpH cp lo o xs H fun v H'=>Q .normal (setD (setAll S vs) dst v) H')(h:evSets S H l=some vs:=by exact mK)(hc:evChk S H chk=true:=by simp(disch:=first|omega|(simp only[aD];omega))only[evB,yD,Nat.reduceAdd,Nat.reduceBEq,Int.reduceToNat, *])(ha:ev S H a=some xs:=by exact mK):wpS cp lo (.hv l chk [] dst o a) Q S H:=gG h hc ha k
theorem eW{cp:FuncId→Option CF}{lo:Nat}{l:List (Nat×E)}{chk:List E}{Q:aX}{S:List Value}{H:Heap}{vs:List (Nat×Value)}{dst:Option Nat}{o:HOp}{a:E}{xs:List Value}{S':List Value}{H':Heap}{v:Value}(hcall:o.isCall=false)(k:Q .normal S' H')(h:evSets S H l=some vs:=by exact mK)(hc:evChk S H chk=true:=by simp(disch:=first|omega|(simp only[aD];omega))only[evB,yD,Nat.reduceAdd,Nat.reduceBEq,Int.reduceToNat, *])(ha:ev S H a=some xs:=by exact mK)(ho:aR lo o xs H=some (v,H'):=by exact mK)(hS:setD (setAll S vs) dst v=S':=by exact mK):wpS cp lo (.hv l chk [] dst o a) Q S H:=eV hcall h hc ha ho hS k
theorem ky{cp:FuncId→Option CF}{lo:Nat}{c:E}{a b:Stm}{Q:aX}{S:List Value}{H:Heap}{t:Bool}(k1:t=true→wpS cp lo a Q S H)(k2:t=false→wpS cp lo b Q S H)(h:ev1 S H c=some (.bool t):=by exact mK):wpS cp lo (.cond c a b) Q S H:=aF h k1 k2
theorem tV{cf:CF}{R:Value→Heap→Prop}{S:List Value}{H:Heap}{vs:List Value}(k:R (aP vs) H)(h:evList S H cf.res=some vs:=by exact mK):aS cf R .ret S H:=eM h k
theorem rA{lo:Nat}{H:Heap}{v:Value}{N:Nat}(hlo:lo≤H.length)(hl:SlW H v (aj N)):Ev cp lo 59 [.bool false,v] H (fun r H'=>Ext H H'∧IsN H' r N):=by
 have hl0:=hl;obtain⟨ad,c0,rfl⟩:=hl.len;refine L3 ?_;unfold CT xB;simp only[kB,aA];repeat' ((first|refine eX ?_|refine eW rfl ?_);(try simp only[aA]))
 refine ky (fun h=>?_) (fun h=>?_)
 ·have h0:aj N=[]:=by
   have:(aj N).length=0:=by simp at h;simp[h]
   exact List.length_eq_zero_iff.1 this
  clear h;(try simp only[aA]);repeat' ((first|refine eX ?_|refine eW rfl ?_);(try simp only[aA]))
  refine tV ?_;exact⟨Ext.push _ _,_,rfl,.inl ⟨rfl,h0⟩⟩
 ·clear h
  (try simp only[aA]);repeat' ((first|refine eX ?_|refine eW rfl ?_);(try simp only[aA]))
  refine tV ?_;exact⟨Ext.push _ _,_,rfl,hl0.mono (Ext.push _ _)⟩
theorem tM{lo:Nat}{H:Heap}{v:Value}{N:Nat}(hlo:lo≤H.length)(hl:IsN H v N)(hb:(aj N).length≤512):Ev cp lo 60 [v] H (fun r H'=>Ext H H'∧r=.bool true):=by
 obtain⟨m,rfl,hm⟩:=hl;have hm0:=hm;obtain⟨ad,c0,rfl⟩:=hm.len;refine KN ?_;unfold Ec yN;simp only[kB,aA];repeat' ((first|refine eX ?_|refine eW rfl ?_);(try simp only[aA]))
 refine ky (fun h=>?_) (fun h=>?_)
 ·clear h
  (try simp only[aA]);repeat' ((first|refine eX ?_|refine eW rfl ?_);(try simp only[aA]))
  refine tV ?_;exact⟨Ext.push _ _,rfl⟩
 ·have hpos:0<(aj N).length:=by simp at h;have:=List.length_pos_iff.2 h;omega
  clear h;obtain⟨b,o,sp,cap,xs,e,g,hat,hxl⟩:=hm0.els 0 hpos;cases e;have hati:=hat ((aj N).length-1) (by omega);clear hat;have hlt:(aj N).length-1<(aj N).length:=by omega
  have hlast:=qD (B:=W32) (by decide) N;rw[List.getLast?_eq_getElem?,List.getElem?_eq_getElem hlt]at hlast;have hne:(aj N).getD ((aj N).length-1) 0≠0:=by
   rw[List.getD_eq_getElem?_getD,List.getElem?_eq_getElem hlt];intro e;apply hlast;simp only[Option.getD_some]at e;rw[e]
  clear hlast;generalize (aj N).getD ((aj N).length-1) 0=x at *;have e1:((aj N).length:Int)-1=(((aj N).length-1:Nat):Int):=by omega
  have hp2:((aj N).length:Int)≤512:=by omega
  have hbl:=Heap.get_lt g;(try simp only[aA]);repeat' ((first|refine eX ?_|refine eW rfl ?_);(try simp only[aA]))
  refine tV ?_;refine⟨Ext.push _ _,?_⟩;simp[aP];omega
theorem gY{H:Heap}{d:Nat}{c:List Value}(h:H.get d=some c):H.set d (some c)=H:=by
 have hl:=Heap.get_lt h;apply List.ext_getElem (by simp);intro i h1 h2;rw[List.getElem_set];split
 ·rename_i e
  subst e;rw[eC,List.getElem?_eq_getElem hl]at h;revert h;cases H[d]with
  | none=>intro h;simp at h
  | some x=>intro h;simp at h;rw[h]
 ·rfl
theorem rev{lo:Nat}{H:Heap}{b n:Nat}{sp:Option Nat}{cap:Nat}{l:List Nat}(hlo:lo≤b)(hg:H.get b=some (l.map ag))(hn:l.length=n)(hb:l.length≤1000000) :
  Ev cp lo 62 [.slice (some ⟨b,0,sp⟩) n cap] H (fun r H'=>H'=H.set b (some (l.reverse.map ag))):=by
 subst hn;have hbl:=Heap.get_lt hg;refine KV ?_;unfold Ep vU;simp only[kB,aA];repeat' ((first|refine eX ?_|refine eW rfl ?_);(try simp only[aA]))
 refine ai (fun i S H'=>∃m:List Nat,H'=H.set b (some (m.map ag))∧(l.length≤m.length∧m.length≤l.length)∧(∀k,k<l.length→m.getD k 0=if k<i∨l.length≤k+i then l.getD (l.length-1-k) 0 else l.getD k 0)∧∃(z:Nat→Value),S=[.slice (some ⟨b,0,sp⟩) l.length cap,.int .i64 (i:Nat),.int .i64 ((l.length:Int)-1-(i:Nat)),z 3,z 4,z 5]) (l.length/2) ?_ ?_ ?_ ?_
 ·refine⟨l,(gY hg).symm,by omega,fun k hk=>?_,aE ?_⟩
  ·rw[if_neg (by omega)]
  ·simp
 ·rintro i S H' hi ⟨m,rfl,-,-,z,rfl⟩
  exact⟨_,mK,by simp;omega⟩
 ·rintro i S H' hi ⟨m,rfl,hml,hm,z,rfl⟩
  obtain⟨j,hj,hj2⟩:∃j,j+1+i≤l.length∧l.length≤j+1+i:=⟨l.length-1-i,by omega,by omega⟩;have ej:(l.length:Int)-1-(i:Nat)=(j:Nat):=by omega
  have ga:(m.map ag)[i]?=some (ag (m.getD i 0)):=by
   rw[List.getElem?_map,List.getD_eq_getElem?_getD,List.getElem?_eq_getElem (show i<m.length by omega)];rfl
  have gb:(m.map ag)[j]?=some (ag (m.getD j 0)):=by
   rw[List.getElem?_map,List.getD_eq_getElem?_getD,List.getElem?_eq_getElem (show j<m.length by omega)];rfl
  generalize hx:m.getD i 0=x at ga;generalize hy:m.getD j 0=y at gb;have hXi:i<(m.map ag).length:=by rw[List.length_map];omega
  have hXj:j<(m.map ag).length:=by rw[List.length_map];omega
  have hgb:=aN (H:=H) (c:=m.map ag) hbl;generalize hX:m.map ag=X at *;have hij:i≠j:=by omega
  (try simp only[aA]);repeat' ((first|refine eX ?_|refine eW rfl ?_);(try simp only[aA]))
  have e2:(j:Int)-1=(l.length:Int)-1-((i+1:Nat):Int):=by omega
  refine⟨(m.set i y).set j x,by rw[List.set_set,List.set_set,List.map_set,List.map_set,hX],by simp only[List.length_set];exact hml,fun k hk=>?_,aE (by rw[e2];rfl)⟩;have hmk:=hm k hk;rw[List.getD_eq_getElem?_getD,List.getElem?_set,List.length_set];by_cases ekj:j=k
  ·subst ekj
   rw[if_pos rfl,if_pos (by omega),if_pos (by omega),←hx,hm i (by omega),if_neg (by omega),show l.length-1-j=i by omega];rfl
  ·rw[if_neg ekj,List.getElem?_set]
   by_cases eki:i=k
   ·subst eki
    rw[if_pos rfl,if_pos (by omega),if_pos (by omega),←hy,hm j (by omega),if_neg (by omega),show l.length-1-i=j by omega];rfl
   ·rw[if_neg eki,←List.getD_eq_getElem?_getD,hmk]
    by_cases hc:k<i∨l.length≤k+i
    ·rw[if_pos hc,if_pos (by omega)]
    ·rw[if_neg hc,if_neg (by omega)]
 ·rintro S H' ⟨m,rfl,hml,hm,z,rfl⟩
  have hmr:m=l.reverse:=by
   apply List.ext_getElem (by rw[List.length_reverse];omega);intro k h1 h2;have h3:=hm k (by omega);rw[List.getElem_reverse];rw[List.getD_eq_getElem?_getD,List.getElem?_eq_getElem h1]at h3;simp only[Option.getD_some]at h3;rw[h3];by_cases hc:k<l.length/2∨l.length≤k+l.length/2
   ·rw[if_pos hc,List.getD_eq_getElem?_getD,List.getElem?_eq_getElem (by omega)];rfl
   ·rw[if_neg hc,List.getD_eq_getElem?_getD,List.getElem?_eq_getElem (by omega)]
    simp only[Option.getD_some];congr 1;omega
  subst hmr;refine bN (by simp only[vU];simp(disch:=first|omega|(simp only[aD];omega))only[evB,yD,Nat.reduceAdd,Nat.reduceBEq,Int.reduceToNat, *];rfl) ?_;rfl
theorem mJ{N:Nat}:aj N=[]↔N=0:=by
 constructor
 ·intro h
  have:=eT (B:=W32) (by decide) N;rw[show dD W32 N=[] from h]at this;exact this.symm
 ·rintro rfl;exact bM _
theorem kN{N:Nat}(h:N≠0):0<(aj N).length:=List.length_pos_iff.2 fun e=>h (mJ.1 e)
theorem kS{k N:Nat}(h:N<W32^k):(aj N).length≤k:=cz (by decide) k N h
theorem qT{lo:Nat}{H:Heap}{v:Value}{b:Nat}{l:List Nat}(h:Own lo 1 H v b (l.map ag)):∃a,v=.slice a l.length l.length:=by
 obtain⟨a,n,rfl,h1,_⟩:=h.len (by omega);exact⟨a,by rw[show n=l.length by simpa using h1]⟩
theorem qU{lo sz A:Nat}{H:Heap}{v:Value}{b:Nat}{c:List Value}(h:Own lo sz H v b c)(hA:A≤b){n:Nat}(hn:A≤n)(hlo:lo≤n):∃b',Own lo sz H v b' c∧A≤b'∧(b'<H.length∨n≤b'):=by
 obtain⟨h1,⟨h2,h3⟩|⟨m,h2,h3,h4,h5⟩⟩:=h
 ·exact⟨n,⟨hlo,.inl ⟨h2,h3⟩⟩,hn,.inr (Nat.le_refl _)⟩
 ·exact⟨b,⟨h1,.inr ⟨m,h2,h3,h4,h5⟩⟩,hA,.inl (Heap.get_lt h5)⟩
theorem uz{α:Type}{enc:α→Value}{H H':Heap}{v:Value}{l:List α}{b:Nat}(h:Sl enc H v l)(hk:Keep b H H')(hne:∀b' o sp n c,v=.slice (some ⟨b',o,sp⟩) n c→b'≠b):Sl enc H' v l:=by
 rcases h with h|⟨b',o,sp,cap,xs,h1,h2,h3⟩
 ·exact .inl h
 ·exact .inr ⟨b',o,sp,cap,xs,h1,hk.get h2 (hne _ _ _ _ _ h1),h3⟩
theorem p6{B:Nat}(hB:2≤B):∀(k:Nat) {M N:Nat},M≤N→N<B^k→(dD B M).length≤(dD B N).length
 | 0,M,N,h,hk=>by
  have:M=0:=by simp at hk;omega
  rw[this,bM];simp
 | k+1,M,N,h,hk=>by
  by_cases h0:M=0
  ·rw[h0,bM];simp
  ·rw[cJ hB h0,cJ hB (show N≠0 by omega)]
   have:=p6 hB k (Nat.div_le_div_right h:M/B≤N/B) (by rw[Nat.div_lt_iff_lt_mul (by omega)];rwa [Nat.pow_succ]at hk);simp;exact this
theorem oo{M N:Nat}(h:M≤N):(aj M).length≤(aj N).length:=
 p6 (by decide) N h (Nat.lt_pow_self (by decide))
theorem BP{lo:Nat}{H:Heap}{v:Value}{N B:Nat}(hlo:lo≤H.length)(hv:IsN H v N)(hN:(aj N).length≤512)(hB:2≤B∧B≤65536)(h0:N≠0)(hd:(dD B N).length≤4000) :
  Ev cp lo 43 [v,.int .i64 (B:Nat)] H (fun r H'=>Ext H H'∧∃w,r=.tuple #[w,.int .i64 0]∧SlN H' w (dD B N).reverse∧∃b sp,H.length≤b∧w=.slice (some ⟨b,0,sp⟩) (dD B N).length (dD B N).length∧H'.get b=some ((dD B N).reverse.map ag)):=by
 have hv0:=hv;obtain⟨m,rfl,hm⟩:=hv;have hm0:=hm;obtain⟨ad,c0,rfl⟩:=hm.len;have hpos:=kN h0;have ewb:=gz (p:=B) (by omega);refine KU ?_;unfold EY yj;simp only[kB,aA];repeat' ((first|refine eX ?_|refine eW rfl ?_);(try simp only[aA]))
 refine pJ ?_;have hx0:=Ext.push H (some [.bool false,.slice ad (aj N).length c0]);refine aC (tM (by simp;omega) (hv0.mono hx0) hN) ?_;rintro r H1 ⟨hx1,rfl⟩;have g0:=hx1.get (aQ H _);have hx1:=hx1.of_push;have hlen1:=hx1.1;(try simp only[aA]);refine ky (fun h=>?_) (fun h=>?_)
 ·simp only[Bool.not_true,Bool.false_or,Bool.or_eq_true,decide_eq_true_eq]at h;omega
 clear h;(try simp only[aA]);refine ky (fun h=>?_) (fun h=>?_)
 ·exact absurd (mJ.1 (by simpa using h)) h0
 clear h;(try simp only[aA]);repeat' ((first|refine eX ?_|refine eW rfl ?_);(try simp only[aA]))
 have hsm0:SlW H1 (.slice ad (aj N).length c0) (aj N):=hm0.mono hx1;clear hm hm0 hv0;refine bk (fun m S H'=>Ext H1 H'∧∃(M:Nat) (d:List Nat) (w q:Value) (b:Nat),m=M∧(d++dD B M=dD B N∨False)∧H1.length≤b∧Own lo 1 H' w b (d.map ag)∧SlW H' q (aj M)∧(aj M).length≤512∧(∃(z:Nat→Value),S=[z 0,.int .i64 (B:Nat),z 2,z 3,z 4,w,q,z 7,z 8,z 9,z 10,z 11,z 12,z 13])) N ?_ ?_
 ·exact⟨Ext.refl _,N,[],_,_,H1.length,rfl,.inl rfl,Nat.le_refl _,Own.nil (by omega),hsm0,hN,aE rfl⟩
 rintro M S H' ⟨hx,_,d,w,q,b,rfl,hs,hb,ho,hq,hql,z,rfl⟩;obtain⟨aw,rfl⟩:=qT ho;have hq0:=hq;obtain⟨aq,cq,rfl⟩:=hq.len;have hlen2:=hx.1;have hdl:d.length≤4000:=by
  have:=congrArg List.length (hs.resolve_right id);rw[List.length_append]at this;omega
 (try simp only[aA]);refine ky (fun h=>?_) (fun h=>?_)
 ·have hM:M≠0:=by
   rintro rfl;rw[show aj 0=[] from bM _]at h;simp at h
  clear h;(try simp only[aA]);repeat' ((first|refine eX ?_|refine eW rfl ?_);(try simp only[aA]))
  refine ky (fun h=>?_) (fun h=>?_)
  ·simp at h;omega
  clear h;(try simp only[aA]);repeat' ((first|refine eX ?_|refine eW rfl ?_);(try simp only[aA]))
  refine pJ ?_;refine aC (FE (by omega) hq0 (by omega) (iE M) (by unfold W32;omega) (by omega)) ?_;obtain⟨e1,e2⟩:=pQ (N:=M) (by_:=B) (by omega);rw[e1,e2];rintro r H2 ⟨hx2,q',rfl,hq',hqe⟩;replace hqe:=Or.inr (a:=False) hqe;have hrem:M%B<B:=Nat.mod_lt _ (by omega);have hlen3:=hx2.1;obtain⟨b',ho,hb,hbo⟩:=qU ho (A:=H1.length) hb (n:=H2.length+1) (by omega) (by omega);generalize hR:M%B=R at *;(try simp only[aA]);repeat' ((first|refine eX ?_|refine eW rfl ?_);(try simp only[aA]))
  have hxd:Ext H2 (H2++[some [ag R]]):=Ext.app _ _;refine pJ ?_;refine eG (c:=[ag R]) ((ho.mono hx2).mono hxd) (by simp;omega) (by omega) (by omega) (by simp;omega) aH (by simp) rfl rfl ?_;intro w' H4 ho4 hk4 hl4;have hx4:=hk4.ext (hx.trans (hx2.trans hxd)) hb;have ho5:Own lo 1 H4 w' (H2.length+1) ((d++[R]).map ag):=by simpa using ho4
  clear ho4;have hqq:SlW H4 q' (aj (M/B)):=uz (hq'.mono hxd) hk4 (fun b2 o2 sp2 n2 c2 e=>by rw[hqe.resolve_left id]at e;cases e;omega);clear hq' hqe;(try simp only[aA]);repeat' ((first|refine eX ?_|refine eW rfl ?_);(try simp only[aA]))
  simp only[dP];refine⟨M/B,Nat.div_lt_self (by omega) (by omega),hx4,_,d++[R],w',q',H2.length+1,rfl,.inl ?_,by omega,ho5,hqq,?_,aE rfl⟩
  ·rw[←hs.resolve_right id,cJ (by omega) hM,hR];simp
  ·refine Nat.le_trans (oo (Nat.div_le_self M B)) hql
 ·have hM:M=0:=by
   apply Decidable.byContradiction;intro hM;have:=kN hM;simp only[decide_eq_false_iff_not]at h;omega
  clear h;subst hM;have hs:=hs.resolve_right id;rw[bM,List.append_nil]at hs;obtain⟨hb0,⟨hw,hd0⟩|⟨n,hn0,hn,hw,hg⟩⟩:=ho
  ·have:d=[]:=by simpa using hd0
   rw[this]at hs;have:=cJ (by omega) h0 (B:=B);rw[←hs]at this;cases this
  cases hw;(try simp only[aA]);refine pJ ?_;refine aC (rev (l:=d) (by omega) hg (by rw[hs]) (by omega)) ?_;rintro r H2 rfl;have hbl:=Heap.get_lt hg;(try simp only[aA]);repeat' ((first|refine eX ?_|refine eW rfl ?_);(try simp only[aA]))
  refine tV ?_;refine⟨(hx1.trans hx).set (by omega),_,rfl,?_,b,some 1,by omega,by rw[←hs],by rw[←hs];exact aN hbl⟩;rw[←hs];exact Sl.whole (aN hbl) (by simp)
def aY(B:Nat)(l:List Nat):Nat:=l.foldl (fun n d=>n*B+d) 0
theorem k6(B:Nat)(l:List Nat)(d:Nat):aY B (l++[d])=aY B l*B+d:=by simp[aY]
theorem gy{B:Nat}{l:List Nat}{i:Nat}(h:i<l.length):aY B (l.take (i+1))=aY B (l.take i)*B+l.getD i 0:=by
 rw[List.take_add_one,List.getElem?_eq_getElem h,Option.toList_some,k6,List.getD_eq_getElem?_getD,List.getElem?_eq_getElem h];rfl
theorem fY{B:Nat}{l:List Nat}(h:∀d ∈ l,d<B):∀i,i≤l.length→aY B (l.take i)<B^i:=by
 intro i
 induction i with
 | zero=>intro _;simp[aY]
 | succ i ih=>
  intro hi;have h1:=ih (by omega);rw[gy (by omega),Nat.pow_succ];have h2:l.getD i 0<B:=by
   rw[List.getD_eq_getElem?_getD,List.getElem?_eq_getElem (by omega)];exact h _ (List.getElem_mem _)
  have:(aY B (l.take i)+1)*B≤B^i*B:=Nat.mul_le_mul_right B h1;rw[Nat.add_mul]at this;omega
theorem l7{H:Heap}{v:Value}{l:List Nat}(h:SlN H v l){i:Nat}(hi:i<l.length):∃b o sp cap xs,v=.slice (some ⟨b,o,sp⟩) l.length cap∧H.get b=some xs∧xs[o+i]?=some (ag (l.getD i 0)):=by
 obtain⟨b,o,sp,cap,xs,e,g,hat,_⟩:=h.els 0 (by omega);exact⟨b,o,sp,cap,xs,e,g,hat i hi⟩
theorem qN{α:Type}{enc:α→Value}{H:Heap}{v:Value}{l:List α}{d:Nat}{c c':List Value}(h:Sl enc H v l)(hg:H.get d=some c)(hlen:c'.length=c.length)(hne:∀x ∈ c,∀a,x≠enc a):Sl enc (H.set d (some c')) v l:=by
 rcases h with h|⟨b',o,sp,cap,xs,h1,h2,h3,h4,h5⟩
 ·exact .inl h
 ·by_cases e:b'=d
  ·subst e
   rw[hg]at h2;cases h2;cases l with
   | nil=>exact .inr ⟨b',o,sp,cap,c',h1,aN (Heap.get_lt hg),by simp,by rw[hlen];exact h4,h5⟩
   | cons a l=>
    have e0:((c.drop o).take (a::l).length)[0]?=((a::l).map enc)[0]?:=by rw[h3]
    rw[List.getElem?_take,if_pos (by simp),List.getElem?_drop]at e0;simp at e0;exact absurd rfl (hne _ (List.mem_of_getElem? e0) a)
  ·exact .inr ⟨b',o,sp,cap,xs,h1,(aM (fun e'=>e e'.symm)).trans h2,h3,h4,h5⟩
theorem Cu{lo:Nat}{H:Heap}{v:Value}{l:List Nat}{B:Nat}(hlo:lo≤H.length)(hl:SlN H v l)(hb:l.length≤500)(hB:2≤B∧B≤65536)(hd:∀d ∈ l,d<B) :
  Ev cp lo 44 [v,.int .i64 (B:Nat)] H (fun r H'=>Ext H H'∧∃w,r=.tuple #[w,.int .i64 0]∧IsN H' w (aY B l)):=by
 have hl0:=hl;obtain⟨ad,c0,rfl⟩:=hl.len;have ewb:=gz (p:=B) (by omega);refine KS ?_;unfold Ee xP;simp only[kB,aA];repeat' ((first|refine eX ?_|refine eW rfl ?_);(try simp only[aA]))
 refine ky (fun h=>?_) (fun h=>?_)
 ·simp only[Bool.or_eq_true,decide_eq_true_eq]at h;omega
 clear h;(try simp only[aA]);repeat' ((first|refine eX ?_|refine eW rfl ?_);(try simp only[aA]))
 refine ky (fun h=>?_) (fun h=>?_)
 ·simp only[decide_eq_true_eq]at h;omega
 clear h;(try simp only[aA]);repeat' ((first|refine eX ?_|refine eW rfl ?_);(try simp only[aA]))
 refine ai (fun i S H'=>H++[some [.bool false,.slice none 0 0]]=H'∧∃(z:Nat→Value),S=[.slice ad l.length c0,.int .i64 (B:Nat),.pointer (some ⟨H.length,0,none⟩),.int .i64 0,z 4,z 5,z 6,.slice ad l.length c0,.int .i64 (l.length:Nat),.int .i64 (i:Nat),z 10,z 11,z 12,z 13,z 14]) l.length ?_ ?_ ?_ ?_
 ·exact⟨rfl,aE rfl⟩
 ·rintro i S H' hi ⟨rfl,z,rfl⟩
  exact⟨_,mK,by simp⟩
 ·rintro i S H' hi ⟨rfl,z,rfl⟩
  obtain⟨b,o,sp,cap,xs,e,g,hat⟩:=l7 hl0 hi;cases e;have hbl:=Heap.get_lt g;have hdi:l.getD i 0<B:=by
   rw[List.getD_eq_getElem?_getD,List.getElem?_eq_getElem hi];exact hd _ (List.getElem_mem _)
  generalize l.getD i 0=x at hat hdi;(try simp only[aA]);repeat' ((first|refine eX ?_|refine eW rfl ?_);(try simp only[aA]))
  refine ky (fun h=>?_) (fun h=>?_)
  ·simp only[Bool.or_eq_true,decide_eq_true_eq]at h;omega
  clear h;(try simp only[aA]);repeat' ((first|refine eX ?_|refine eW rfl ?_);(try simp only[aA]))
  exact⟨by trivial,aE (by first|rfl|(simp only[Int.natCast_add,Int.natCast_one];rfl)|simp only[Int.natCast_add,Int.natCast_one])⟩
 ·rintro S H' ⟨rfl,z,rfl⟩
  (try simp only[aA]);repeat' ((first|refine eX ?_|refine eW rfl ?_);(try simp only[aA]))
  refine ai (fun i S H'=>Ext (H++[some [.bool false,.slice none 0 0]]) H'∧∃q,SlW H' q (aj (aY B (l.take i)))∧∃(z:Nat→Value),S=[.slice ad l.length c0,.int .i64 (B:Nat),.pointer (some ⟨H.length,0,none⟩),.int .i64 0,z 4,q,z 6,z 7,z 8,z 9,.slice ad l.length c0,.int .i64 (l.length:Nat),.int .i64 (i:Nat),z 13,z 14]) l.length ?_ ?_ ?_ ?_
  ·exact⟨Ext.refl _,_,.inl ⟨rfl,by simp[aY,bM]⟩,aE rfl⟩
  ·rintro i S H' hi ⟨hx,q,-,z,rfl⟩
   exact⟨_,mK,by simp⟩
  ·rintro i S H' hi ⟨hx,q,hq,z,rfl⟩
   obtain⟨b,o,sp,cap,xs,e,g,hat⟩:=l7 hl0 hi;cases e;have hbl:=Heap.get_lt g;have g:=hx.get (iV hbl▸g:Heap.get (H++_) b=some xs);have hdi:l.getD i 0<B:=by
    rw[List.getD_eq_getElem?_getD,List.getElem?_eq_getElem hi];exact hd _ (List.getElem_mem _)
   have hnt:=gy (B:=B) hi;have hpw:∀j,j≤l.length→(aj (aY B (l.take j))).length≤j:=fun j hj=>kS (Nat.lt_of_lt_of_le (fY hd j hj) (Nat.pow_le_pow_left (by unfold W32;omega) j));have hp1:=hpw i (by omega);have hp2:=hpw (i+1) (by omega);rw[hnt]at hp2 ⊢;clear hnt hpw;generalize l.getD i 0=x at hat hdi hp2 ⊢;generalize aY B (l.take i)=N at *;have ewx:=gz (p:=x) (by omega);have hlen:=hx.1;simp at hlen;(try simp only[aA]);(repeat' ((first|refine eX ?_|refine eW rfl ?_);(try simp only[aA])));refine pJ ?_;refine aC (scale (by omega) hq (by omega) (iE N) (by unfold W32;omega) (by unfold W32;omega)) ?_;rw[mq (by unfold W32;omega) (by unfold W32;omega)];rintro r H2 ⟨hx2,hr⟩;have hr0:=hr;obtain⟨ar,cr,rfl⟩:=hr.len;(try simp only[aA]);(repeat' ((first|refine eX ?_|refine eW rfl ?_);(try simp only[aA])));refine ky (fun h=>?_) (fun h=>?_)
   ·simp only[decide_eq_true_eq]at h;omega
   clear h;(try simp only[aA]);(repeat' ((first|refine eX ?_|refine eW rfl ?_);(try simp only[aA])));exact⟨hx.trans hx2,_,hr0,aE (by first|rfl|(simp only[Int.natCast_add,Int.natCast_one];rfl)|simp only[Int.natCast_add,Int.natCast_one])⟩
  ·rintro S H' ⟨hx,q,hq,z,rfl⟩
   rw[List.take_length]at hq;have hlen:=hx.1;simp at hlen;have g0:=hx.get (aQ H _);have hx:=hx.of_push;(try simp only[aA]);(repeat' ((first|refine eX ?_|refine eW rfl ?_);(try simp only[aA])));refine pJ ?_;refine aC (rA (by omega) hq) ?_;rintro r H2 ⟨hx2,m,rfl,hm⟩;have hm0:=hm;obtain⟨am,cm,rfl⟩:=hm.len;have g0:=hx2.get g0;have hl2:=Heap.get_lt g0;(try simp only[aA]);(repeat' ((first|refine eX ?_|refine eW rfl ?_);(try simp only[aA])));refine tV ?_;exact⟨(hx.trans hx2).set (Nat.le_refl _),_,rfl,_,rfl,qN hm0 g0 rfl (fun x hx a=>by simp at hx;rcases hx with rfl|rfl<;>simp)⟩
abbrev bh(l:List UInt8):Value:=.string ⟨l.toArray⟩
theorem dO(l:List UInt8):(ByteArray.mk l.toArray).size=l.length:=by simp[ByteArray.size]
theorem kD(H:Heap)(l:List UInt8):aG .lenS [bh l] H=some (.int .i64 (l.length:Nat)):=by
 simp only[aG,dO]
theorem bytes_beq(a b:List UInt8):((ByteArray.mk a.toArray).toList==(ByteArray.mk b.toArray).toList)=(a==b):=by
 rw[ByteArray.toList_mk,ByteArray.toList_mk]
theorem qp(H:Heap)(a b:List UInt8):aG (.bin .eql) [bh a,bh b] H=some (.bool (decide (a=b))):=by
 simp only[aG,cN,mf,bytes_beq];by_cases h:a=b<;>simp[h]
theorem oQ(H:Heap)(a b:List UInt8):aG (.bin .neq) [bh a,bh b] H=some (.bool (decide (a≠b))):=by
 simp only[aG,cN,mf,bytes_beq];by_cases h:a=b<;>simp[h]
theorem zr(l:List UInt8)(i:Nat):(ByteArray.mk l.toArray)[i]?=l[i]?:=by
 by_cases h:i<l.length
 ·rw[List.getElem?_eq_getElem h]
  have h2:i<(ByteArray.mk l.toArray).size:=by rw[dO];exact h
  rw[getElem?_pos (ByteArray.mk l.toArray) i h2];rfl
 ·rw[List.getElem?_eq_none (by omega),getElem?_neg]
  rw[dO];omega
theorem dK{H:Heap}{l:List UInt8}{k:IntKind}{i:Nat}(h:i<l.length):aG .idxS [bh l,.int k (i:Nat)] H=some (.int .u8 ((l.getD i 0).toNat:Nat)):=by
 simp only[aG];rw[if_pos (by omega),Int.toNat_natCast,zr,List.getElem?_eq_getElem h,List.getD_eq_getElem?_getD,List.getElem?_eq_getElem h];rfl
theorem ll{H:Heap}{l:List UInt8}{k:IntKind}(h:0<l.length):aG .idxS [bh l,.int k 0] H=some (.int .u8 ((l.getD 0 0).toNat:Nat)):=dK h
theorem qY(l:List UInt8)(a b:Nat):(ByteArray.mk l.toArray).extract a b=⟨((l.take b).drop a).toArray⟩:=by
 apply ByteArray.ext;simp only[ByteArray.data_extract,List.extract_toArray,List.extract_eq_drop_take']
theorem lr{H:Heap}{l:List UInt8}{k:IntKind}{a:Nat}(h:a≤l.length):aG (.slS true false) [bh l,.int k (a:Nat)] H=some (bh (l.drop a)):=by
 simp only[aG,dO];rw[uu (by omega) (by omega)];simp[qY]
theorem n8{H:Heap}{l:List UInt8}{k:IntKind}{b:Nat}(h:b≤l.length):aG (.slS false true) [bh l,.int k (b:Nat)] H=some (bh (l.take b)):=by
 simp only[aG,dO];rw[vK (by omega) (by omega)];simp[qY]
theorem nY{H:Heap}{l:List UInt8}{k k':IntKind}{a b:Nat}(h:a≤b)(h2:b≤l.length):aG (.slS true true) [bh l,.int k (a:Nat),.int k' (b:Nat)] H=some (bh ((l.take b).drop a)):=by
 simp only[aG,dO];rw[nV (by omega) (by omega) (by omega)];simp[qY]
theorem AT{lo:Nat}(H:Heap)(s:ByteArray):aR lo .sit [.string s] H=some (.pointer (some ⟨H.length,0,some 0⟩),H++[some [.string s,.int .i64 (0:Nat)]]):=rfl
theorem u9{lo:Nat}{H:Heap}{l:List UInt8}{b p z:Nat}(hlo:lo≤b)(hg:H.get b=some [bh l,.int .i64 (p:Nat)])(hp:p<l.length)(ha:(l.getD p 0).toNat<128) :
  aR lo .snx [.pointer (some ⟨b,0,some z⟩)] H=some (.tuple #[.bool true,.int .i64 (p:Nat),.int .i32 ((l.getD p 0).toNat:Nat)],H.set b (some [bh l,.int .i64 ((p+1:Nat):Int)])):=by
 have h1:p<(ByteArray.mk l.toArray).size:=by rw[dO];exact hp
 have h2:((ByteArray.mk l.toArray)[p]'h1)=l.getD p 0:=by
  have:=zr l p;rw[getElem?_pos (ByteArray.mk l.toArray) p h1,List.getElem?_eq_getElem hp]at this;rw[List.getD_eq_getElem?_getD,List.getElem?_eq_getElem hp];simpa using this
 have hd:=decode_ascii ⟨l.toArray⟩ p h1 (by rw[h2];exact ha);rw[h2]at hd;simp only[aR,hsem,mQ];rw[if_pos hlo,hg];show(if p<(ByteArray.mk l.toArray).size then _ else _)=_;rw[if_pos h1,hd];rfl
theorem vF{lo:Nat}{H:Heap}{l:List UInt8}{b p z:Nat}(hlo:lo≤b)(hg:H.get b=some [bh l,.int .i64 (p:Nat)])(hp:l.length≤p) :
  aR lo .snx [.pointer (some ⟨b,0,some z⟩)] H=some (.tuple #[.bool false],H):=by
 have h1:¬ p<(ByteArray.mk l.toArray).size:=by rw[dO];omega
 simp only[aR,hsem,mQ];rw[if_pos hlo,hg];show(if p<(ByteArray.mk l.toArray).size then _ else _)=_;rw[if_neg h1]
set_option linter.defProp false in
def Aa:=And.intro @Int.cast_ofNat_Int (And.intro @ite_self.{1} (And.intro @fB (And.intro @kD (And.intro @dO (And.intro @qp (And.intro @oQ (And.intro @dK (And.intro @ll (And.intro @lr (And.intro @n8 (And.intro @nY (And.intro @AT (And.intro @u9 @vF)))))))))))))
theorem pC{P:Prop}(h:P:=by simp(disch:=first|omega|(simp only[aD];omega))only[evB,Aa,Nat.reduceAdd,Nat.reduceBEq,Int.reduceToNat, *];rfl):P:=h
theorem lC{cp:FuncId→Option CF}{lo:Nat}{l:List (Nat×E)}{chk:List E}{Q:aX}{S:List Value}{H:Heap}{vs:List (Nat×Value)}{S':List Value}(k:Q .normal S' H)(h:evSets S H l=some vs:=by exact pC)(hc:evChk S H chk=true:=by simp(disch:=first|omega|(simp only[aD];omega))only[evB,Aa,Nat.reduceAdd,Nat.reduceBEq,Int.reduceToNat, *])(hS:setAll S vs=S':=by exact pC):wpS cp lo (.sets l chk) Q S H:=eF h hc hS k
theorem wy{cp:FuncId→Option CF}{lo:Nat}{l:List (Nat×E)}{chk:List E}{Q:aX}{S:List Value}{H:Heap}{vs:List (Nat×Value)}{dst:Option Nat}{o:HOp}{a:E}{xs:List Value}(k:wpH cp lo o xs H fun v H'=>Q .normal (setD (setAll S vs) dst v) H')(h:evSets S H l=some vs:=by exact pC)(hc:evChk S H chk=true:=by simp(disch:=first|omega|(simp only[aD];omega))only[evB,Aa,Nat.reduceAdd,Nat.reduceBEq,Int.reduceToNat, *])(ha:ev S H a=some xs:=by exact pC):wpS cp lo (.hv l chk [] dst o a) Q S H:=gG h hc ha k
theorem lH{cp:FuncId→Option CF}{lo:Nat}{l:List (Nat×E)}{chk:List E}{Q:aX}{S:List Value}{H:Heap}{vs:List (Nat×Value)}{dst:Option Nat}{o:HOp}{a:E}{xs:List Value}{S':List Value}{H':Heap}{v:Value}(hcall:o.isCall=false)(k:Q .normal S' H')(h:evSets S H l=some vs:=by exact pC)(hc:evChk S H chk=true:=by simp(disch:=first|omega|(simp only[aD];omega))only[evB,Aa,Nat.reduceAdd,Nat.reduceBEq,Int.reduceToNat, *])(ha:ev S H a=some xs:=by exact pC)(ho:aR lo o xs H=some (v,H'):=by exact pC)(hS:setD (setAll S vs) dst v=S':=by exact pC):wpS cp lo (.hv l chk [] dst o a) Q S H:=eV hcall h hc ha ho hS k
theorem vw{cp:FuncId→Option CF}{lo:Nat}{c:E}{a b:Stm}{Q:aX}{S:List Value}{H:Heap}{t:Bool}(k1:t=true→wpS cp lo a Q S H)(k2:t=false→wpS cp lo b Q S H)(h:ev1 S H c=some (.bool t):=by exact pC):wpS cp lo (.cond c a b) Q S H:=aF h k1 k2
theorem AL{cf:CF}{R:Value→Heap→Prop}{S:List Value}{H:Heap}{vs:List Value}(k:R (aP vs) H)(h:evList S H cf.res=some vs:=by exact pC):aS cf R .ret S H:=eM h k
theorem HB{lo:Nat}{H:Heap}{l p:List UInt8}:Ev cp lo 93 [bh l,bh p] H (fun r H'=>H'=H∧r=.bool (decide (p.length≤l.length)&&decide (l.take p.length=p))):=by
 refine KB ?_;unfold Dc xY;simp only[kB,aA];by_cases hc:p.length≤l.length
 ·repeat' ((first|refine lC ?_|refine lH rfl ?_);(try simp only[aA]))
  refine AL ?_;exact⟨rfl,by simp[aP,hc]⟩
 ·have hc2:¬ ((p.length:Int)≤(l.length:Nat)):=by omega
  repeat' ((first|refine lC ?_|refine lH rfl ?_);(try simp only[aA]))
  refine AL ?_;exact⟨rfl,by simp[aP,hc]⟩
theorem GG{lo:Nat}{H:Heap}{l p:List UInt8}(h:¬ l.take p.length=p):Ev cp lo 77 [bh l,bh p] H (fun r H'=>H'=H∧r=.tuple #[bh l,.bool false]):=by
 refine Kl ?_;unfold EJ xX;simp only[kB,aA];repeat' ((first|refine lC ?_|refine lH rfl ?_);(try simp only[aA]))
 refine wy ?_;refine aC HB ?_;have hf:(decide (p.length≤l.length)&&decide (l.take p.length=p))=false:=by simp[h]
 rw[hf];rintro r H1 ⟨rfl,rfl⟩;clear h hf;(try simp only[aA]);refine vw (fun h=>?_) (fun h=>?_)
 ·clear h
  (try simp only[aA]);repeat' ((first|refine lC ?_|refine lH rfl ?_);(try simp only[aA]))
  refine AL ?_;exact⟨rfl,rfl⟩
 ·simp at h
theorem FQ{lo:Nat}{H:Heap}{l p:List UInt8}(h:¬ l.take p.length=p):Ev cp lo 57 [bh l,bh p] H (fun r H'=>H'=H∧r=.tuple #[bh l,.bool false]):=by
 refine Kz ?_;unfold C3 xu;simp only[kB,aA];repeat' ((first|refine lC ?_|refine lH rfl ?_);(try simp only[aA]))
 refine wy ?_;refine aC (GG h) ?_;rintro r H1 ⟨rfl,rfl⟩;clear h;(try simp only[aA]);repeat' ((first|refine lC ?_|refine lH rfl ?_);(try simp only[aA]))
 refine AL ?_;exact⟨rfl,rfl⟩
def dgt(l:List UInt8):List Nat:=l.map fun b=>b.toNat-48
def bg(b:UInt8):Bool:=decide (48≤b.toNat)&&decide (b.toNat≤57)
theorem tu{l:List UInt8}(h:∀b ∈ l,bg b=true):∀d ∈ dgt l,d<10:=by
 intro d hd;obtain⟨b,hb,rfl⟩:=List.mem_map.1 hd;have:=h b hb;simp[bg]at this;omega
theorem EV{lo:Nat}{H:Heap}{l:List UInt8}(hlo:lo≤H.length)(hl:l.length≤4000)(h1:0<l.length)(hh:(l.getD 0 0).toNat≠48)(hd:∀b ∈ l,bg b=true) :
  Ev cp lo 42 [bh l] H (fun r H'=>Ext H H'∧∃w,r=.tuple #[w,.int .i64 0]∧IsN H' w (aY 10 (dgt l))):=by
 have hne:¬ l.take ([45]:List UInt8).length=[45]:=by
  intro e;cases l with
  | nil=>simp at h1
  | cons a l=>
   simp at e;have:=hd a (by simp);subst e;simp[bg]at this
 refine L9 ?_;unfold Ew zP;simp only[kB,aA];repeat' ((first|refine lC ?_|refine lH rfl ?_);(try simp only[aA]))
 refine wy ?_;refine aC (FQ hne) ?_;rintro r H1 ⟨rfl,rfl⟩;clear hne;(try simp only[aA]);repeat' ((first|refine lC ?_|refine lH rfl ?_);(try simp only[aA]))
 refine vw (fun h=>?_) (fun h=>?_)
 ·simp only[decide_eq_true_eq]at h;omega
 clear h;have hnn:¬ l=[]:=by rintro rfl;simp at h1
 have hh2:¬ (((l.getD 0 0).toNat:Nat):Int)=48:=by omega
 (try simp only[aA]);refine vw (fun h=>?_) (fun h=>?_)
 ·simp only[Bool.false_eq_true]at h
 clear h hh hh2 hnn;(try simp only[aA]);repeat' ((first|refine lC ?_|refine lH rfl ?_);(try simp only[aA]))
 refine bk (fun m S H'=>Ext H H'∧∃(i:Nat) (q:Value),m+i≤l.length∧l.length≤m+i∧H'.get H.length=some [.bool false,.slice none 0 0]∧H'.get (H.length+1)=some [bh l,.int .i64 (i:Nat)]∧SlW H' q (aj (aY 10 (dgt (l.take i))))∧(∃(z:Nat→Value),S=[bh l,.pointer (some ⟨H.length,0,none⟩),.int .i64 0,bh l,.bool false,q,z 6,z 7,.pointer (some ⟨H.length+1,0,some 0⟩),z 9,z 10,z 11])) l.length ?_ ?_
 ·exact⟨Ext.app _ _,0,_,by omega,by omega,aH,by rw[dH];rfl,.inl ⟨rfl,by simp[aY,dgt,bM]⟩,aE rfl⟩
 rintro m S H' ⟨hx,i,q,hm1,hm2,g0,g1,hq,z,rfl⟩;have hlen:=hx.1;have hl1:=Heap.get_lt g1;by_cases hi:i<l.length
 ·have hbi:bg (l.getD i 0)=true:=by
   rw[List.getD_eq_getElem?_getD,List.getElem?_eq_getElem hi];exact hd _ (List.getElem_mem _)
  have hdt:dgt (l.take (i+1))=dgt (l.take i)++[(l.getD i 0).toNat-48]:=by
   unfold dgt;rw[List.take_add_one,List.getElem?_eq_getElem hi,List.getD_eq_getElem?_getD,List.getElem?_eq_getElem hi];simp only[Option.toList_some,List.map_append,List.map_cons,List.map_nil,Option.getD_some]
  have hpw:∀j,j≤l.length→(aj (aY 10 (dgt (l.take j)))).length≤j:=fun j hj=>by
   have e:dgt (l.take j)=(dgt l).take j:=by unfold dgt;rw[List.map_take]
   rw[e];exact kS (Nat.lt_of_lt_of_le (fY (tu hd) j (by simpa[dgt]using hj)) (Nat.pow_le_pow_left (by unfold W32;omega) j))
  have hp1:=hpw i (by omega);have hp2:=hpw (i+1) (by omega);clear hpw;generalize hB:l.getD i 0=bt at *;have hbr:48≤bt.toNat∧bt.toNat≤57:=by simpa[bg]using hbi
  clear hbi;rw[hdt,k6]at hp2;generalize hN:aY 10 (dgt (l.take i))=N at *;obtain⟨x,hx1,hx2⟩:∃x:Nat,bt.toNat≤x+48∧x+48≤bt.toNat:=⟨bt.toNat-48,by omega,by omega⟩;have hxe:bt.toNat-48=x:=by omega
  rw[hxe]at hdt hp2;have hs:=u9 (lo:=lo) (z:=0) (by omega) g1 hi (by rw[hB];omega);rw[hB]at hs;have exi:IntKind.i32.wrap ((bt.toNat:Int)-48)=(x:Nat):=by
   rw[show(bt.toNat:Int)-48=(x:Nat) by omega];simp[IntKind.wrap,IntKind.bits,IntKind.signed];omega
  have ewx:=gz (p:=x) (by omega);(try simp only[aA]);repeat' ((first|refine lC ?_|refine lH rfl ?_);(try simp only[aA]))
  refine vw (fun h=>?_) (fun h=>?_)
  ·clear h
   (try simp only[aA]);(repeat' ((first|refine lC ?_|refine lH rfl ?_);(try simp only[aA])));refine vw (fun h=>?_) (fun h=>?_)
   ·simp only[Bool.or_eq_true,decide_eq_true_eq]at h;omega
   clear h;(try simp only[aA]);(repeat' ((first|refine lC ?_|refine lH rfl ?_);(try simp only[aA])));have hqs:=qN (c':=[bh l,.int .i64 ((i+1:Nat):Int)]) hq g1 rfl (fun x hx a=>by simp at hx;rcases hx with rfl|rfl<;>simp);have g1s:=aN (H:=H') (i:=H.length+1) (c:=[bh l,.int .i64 ((i+1:Nat):Int)]) (by omega);have g0s:=(aM (H:=H') (i:=H.length+1) (j:=H.length) (x:=some [bh l,.int .i64 ((i+1:Nat):Int)]) (by omega)).trans g0;have hxs:=hx.set (i:=H.length+1) (x:=some [bh l,.int .i64 ((i+1:Nat):Int)]) (by omega);clear g0 g1 hq hs hx;have hls:List.length (H'.set (H.length+1) (some [bh l,.int .i64 ((i+1:Nat):Int)]))=H'.length:=by simp
   generalize H'.set (H.length+1) (some [bh l,.int .i64 ((i+1:Nat):Int)])=H2 at *;refine wy ?_;refine aC (scale (by_:=10) (by omega) hqs (by omega) (iE N) (by unfold W32;omega) (by unfold W32;omega)) ?_;rw[mq (by unfold W32;omega) (by unfold W32;omega)];rintro r H3 ⟨hx3,hr⟩;(try simp only[aA]);(repeat' ((first|refine lC ?_|refine lH rfl ?_);(try simp only[aA])));simp only[dP];refine⟨m-1,by omega,hxs.trans hx3,i+1,r,by omega,by omega,hx3.get g0s,hx3.get g1s,?_,aE rfl⟩;rw[hdt,k6,hN];exact hr
  ·cases h
 ·have hi2:l.length≤i:=by omega
  rw[List.take_of_length_le hi2]at hq;have hs:=vF (lo:=lo) (z:=0) (by omega) g1 hi2;(try simp only[aA]);repeat' ((first|refine lC ?_|refine lH rfl ?_);(try simp only[aA]))
  refine vw (fun h=>?_) (fun h=>?_)
  ·cases h
  clear h;(try simp only[aA]);refine wy ?_;refine aC (rA (by omega) hq) ?_;rintro r H2 ⟨hx2,mm,rfl,hmm⟩;have hm0:=hmm;obtain⟨am,cm,rfl⟩:=hmm.len;have g0:=hx2.get g0;have hl2:=Heap.get_lt g0;(try simp only[aA]);repeat' ((first|refine lC ?_|refine lH rfl ?_);(try simp only[aA]))
  refine AL ?_;exact⟨(hx.trans hx2).set (Nat.le_refl _),_,rfl,_,rfl,qN hm0 g0 rfl (fun x hx a=>by simp at hx;rcases hx with rfl|rfl<;>simp)⟩
end Go.Proofs.YtgpolmomghejoaaDoor
