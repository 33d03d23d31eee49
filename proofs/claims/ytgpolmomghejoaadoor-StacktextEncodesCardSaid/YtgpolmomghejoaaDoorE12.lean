/- Lemmas. -/
import Derived.Test.YtgpolmomghejoaaDoorE11
set_option linter.unusedVariables false
set_option linter.unusedSimpArgs false
set_option linter.unusedSectionVars false
namespace Go.Proofs.YtgpolmomghejoaaDoor
open Go.Abs
def dec(N:Nat):List Nat:=(dD 10 N).reverse
def j7(N:Nat):List Nat:=(dD 900 N).reverse
theorem jc:dec 0=[]:=by simp[dec,bM]
theorem sX{a b:Nat}(hb:b<10)(h:10*a+b≠0):dec (10*a+b)=dec a++[b]:=by
 unfold dec;rw[cJ (by decide) h,List.reverse_cons];rw[show(10*a+b)/10=a by omega,show(10*a+b)%10=b by omega]
theorem qc{N:Nat}:dec N=[]↔N=0:=by
 constructor
 ·intro h
  have h2:dD 10 N=[]:=by simpa[dec]using h
  have:=eT (B:=10) (by decide) N;rw[h2]at this;exact this.symm
 ·rintro rfl;exact jc
theorem pY:j7 0=[]:=by simp[j7,bM]
theorem zx{N:Nat}(h:N≠0):j7 N=j7 (N/900)++[N%900]:=by
 unfold j7;rw[cJ (by decide) h,List.reverse_cons]
theorem mH(B:Nat):∀l:List Nat,aY B l.reverse=dA B l
 | []=>rfl
 | d::l=>by rw[List.reverse_cons,k6,mH B l,dA,Nat.mul_comm];omega
theorem sU(N:Nat):aY 10 (dec N)=N:=by rw[dec,mH,eT (by decide)]
theorem mV(N:Nat):aY 900 (j7 N)=N:=by rw[j7,mH,eT (by decide)]
theorem rm:∀{l:List Nat},l.getLast?≠some 0→eZ l=l
 | [],_=>rfl
 | [d],h=>by
  simp at h;simp[eZ,h]
 | d::e::l,h=>by
  have ih:=rm (l:=e::l) (by simpa using h);rw[eZ,ih]
theorem uM{B:Nat}(hB:2≤B){l:List Nat}(h:∀d ∈ l,d<B)(h2:l.head?≠some 0):(dD B (aY B l)).reverse=l:=by
 have e:aY B l=dA B l.reverse:=by rw[←mH,List.reverse_reverse]
 rw[e,mG hB (fun d hd=>h d (List.mem_reverse.1 hd)),rm (by rw[List.getLast?_reverse];exact h2),List.reverse_reverse]
theorem DM{l:List Nat}(h:∀d ∈ l,d<10)(h2:l.head?≠some 0):dec (aY 10 l)=l:=uM (by decide) h h2
theorem qP{l:List Nat}(h:∀d ∈ l,d<900)(h2:l.head?≠some 0):j7 (aY 900 l)=l:=uM (by decide) h h2
theorem dec_lt(N:Nat):∀d ∈ dec N,d<10:=fun d hd=>mA (by decide) N d (List.mem_reverse.1 hd)
theorem qZ(N:Nat):∀d ∈ j7 N,d<900:=fun d hd=>mA (by decide) N d (List.mem_reverse.1 hd)
theorem vl(N:Nat):(j7 N).head?≠some 0:=by
 rw[j7,List.head?_reverse];exact qD (by decide) N
theorem wZ(B d:Nat)(l:List Nat):aY B (d::l)=d*B^l.length+aY B l:=by
 have key:∀(l:List Nat) (x:Nat),l.foldl (fun n d=>n*B+d) x=x*B^l.length+l.foldl (fun n d=>n*B+d) 0:=by
  intro l
  induction l with
  | nil=>intro x;simp
  | cons e l ih=>
   intro x;rw[List.foldl_cons,List.foldl_cons,ih (x*B+e),ih (0*B+e),List.length_cons,Nat.pow_succ,Nat.add_mul,Nat.mul_assoc,Nat.mul_comm (B^l.length) B];simp only[Nat.zero_mul,Nat.zero_add];omega
 unfold aY;rw[List.foldl_cons,key];simp
def sr{α:Type}(n:Nat)(l:List α):List (List α):=if h:l=[]∨n=0 then[] else l.take n::sr n (l.drop n)
 termination_by l.length
 decreasing_by
  have:0<l.length:=List.length_pos_iff.2 (fun e=>h (.inl e));simp;omega
theorem zA{α:Type}(n:Nat):sr n ([]:List α)=[]:=by unfold sr;simp
theorem zt{α:Type}{n:Nat}{l:List α}(hn:0<n)(h:l≠[]):sr n l=l.take n::sr n (l.drop n):=by
 rw[sr];have h2:¬ (l=[]∨n=0):=by
  rintro(h1|h1)
  ·exact h h1
  ·omega
 rw[dif_neg h2]
def dw(l:List UInt8):List Nat:=j7 (aY 10 (1::dgt l))
def iS(l:List UInt8):List Nat:=(sr 44 l).flatMap dw
theorem eJ:iS []=[]:=by simp[iS,zA]
theorem gO{l:List UInt8}(h:l≠[]):iS l=dw (l.take 44)++iS (l.drop 44):=by
 unfold iS;rw[zt (n:=44) (by decide) h,List.flatMap_cons]
theorem u0{l:List UInt8}(h:∀b ∈ l,bg b=true):dec (aY 10 (1::dgt l))=1::dgt l:=by
 refine DM (fun d hd=>?_) (by simp);rcases List.mem_cons.1 hd with rfl|hd
 ·decide
 ·exact tu h d hd
theorem mB{l:List UInt8}(h:∀b ∈ l,bg b=true):aY 10 (1::dgt l)<2*10^l.length∧10^l.length≤aY 10 (1::dgt l):=by
 rw[wZ];have:=fY (tu h) (dgt l).length (Nat.le_refl _);rw[List.take_length]at this;have e:(dgt l).length=l.length:=by simp[dgt]
 rw[e]at this ⊢;omega
theorem gD{l:List UInt8}(h:∀b ∈ l,bg b=true):(dw l).length≤l.length+1:=by
 unfold dw j7;rw[List.length_reverse];refine cz (by decide) _ _ (Nat.lt_of_lt_of_le (mB h).1 ?_)
 calc 2*10^l.length≤900*900^l.length:=Nat.mul_le_mul (by decide) (Nat.pow_le_pow_left (by decide) _)
  _=900^(l.length+1):=by rw[Nat.pow_succ,Nat.mul_comm]
theorem fx:∀(n:Nat) {l:List UInt8},l.length≤n→(∀b ∈ l,bg b=true)→(iS l).length≤2*l.length
 | _,[],_,_=>by simp[eJ]
 | 0,a::l,h,_=>by simp at h
 | n+1,a::l,hn,h=>by
  rw[gO (by simp),List.length_append];have h1:=gD (l:=(a::l).take 44) (fun b hb=>h b (List.mem_of_mem_take hb));have h2:=fx n (l:=(a::l).drop 44) (by simp at hn ⊢;omega) (fun b hb=>h b (List.mem_of_mem_drop hb));rw[List.length_take]at h1;rw[List.length_drop]at h2;simp at h1 h2 ⊢;omega
def iR(l:List Nat):List UInt8:=l.map fun d=>UInt8.ofNat (48+d)
def kA(last:Bool)(p:List Nat):Bool:=
 decide (p.getD 0 0≠0)&&(decide ((dec (aY 900 p)).getD 0 0=1)&&(decide (2≤(dec (aY 900 p)).length)&&(decide ((dec (aY 900 p)).length≤45)&&(last || decide ((dec (aY 900 p)).length=45)))))
def nH(p:List Nat):List UInt8:=iR ((dec (aY 900 p)).drop 1)
def e9(l:List Nat):Option (List UInt8):=if h:l=[] then some [] else
 if kA (decide (l.length≤15)) (l.take 15) then(e9 (l.drop 15)).map (nH (l.take 15)++·) else none
 termination_by l.length
 decreasing_by
  have:0<l.length:=List.length_pos_iff.2 h;simp;omega
theorem mO:e9 []=some []:=by unfold e9;simp
theorem m6{l:List Nat}(h:l≠[]):e9 l=if kA (decide (l.length≤15)) (l.take 15) then(e9 (l.drop 15)).map (nH (l.take 15)++·) else none:=by
 rw[e9,dif_neg h]
theorem zl{l:List UInt8}(h:∀b ∈ l,bg b=true):iR (dgt l)=l:=by
 unfold dgt iR;rw[List.map_map];have:l.map ((fun d=>UInt8.ofNat (48+d)) ∘ fun b:UInt8=>b.toNat-48)=l.map id:=List.map_congr_left fun b hb=>by
  have:=h b hb;simp[bg]at this;simp only[Function.comp,id];rw[show 48+(b.toNat-48)=b.toNat by omega];simp
 rw[this,List.map_id]
set_option maxRecDepth 20000
theorem qo{H:Heap}{a b:List UInt8}(h:a.length+b.length≤9223372036854775807):aG (.bin .add) [bh a,bh b] H=some (bh (a++b)):=by
 simp only[aG,cN,mf,dO];have e:IntKind.i64.max=9223372036854775807:=rfl;rw[if_neg (by rw[e];omega)];congr 2
theorem lq{α:Type}{enc:α→Value}(h1:∀a,(enc a).oneCell'=true){A lo:Nat}{H:Heap}{v w:Value}{b:Nat}{l m:List α}{z:List Value}{R:Value→Heap→Prop}(hlo:lo≤H.length)(hA:A≤b)(hAH:A≤H.length)
  (ho:Own lo 1 H v b (l.map enc)) (hs:Sl enc H w m) (hsz:l.length+m.length≤4294967296)
  (k:∀v' H' b',A≤b'→Own lo 1 H' v' b' ((l++m).map enc)→Keep b H H'→R v' H'):wpH cp lo (.app 1 z) [v,w] H R:=by
 have hz:m=[]→R v H→R v H:=fun _ h=>h;have stay:bI lo 1 v [] 0 H=some (v,H):=by
  obtain⟨hb,⟨rfl,_⟩|⟨n,hn,hn2,rfl,hg⟩⟩:=ho
  ·simp[bI]
  ·simp only[bI,Nat.add_zero,Nat.le_refl,if_true,or_true]
   rw[iY hg hb (by simp only[Nat.zero_add,List.length_nil,Nat.add_zero];omega)];have:putCells (l.map enc) (0+n*1) []=l.map enc:=by simp[putCells]
   rw[this,gY hg];rfl
 cases m with
 | nil=>
  have kk:=k v H b hA (by simpa using ho) ⟨Nat.le_refl _,fun _ _ _=>rfl⟩;rcases hs with ⟨rfl,_⟩|⟨b2,o2,sp2,cap2,xs,rfl,hg,hx,hxl,_⟩
  ·simp only[wpH,aR,hsem,if_true,stay];exact kk
  ·simp only[wpH,aR,hsem,List.length_nil,Nat.zero_mul]
   rw[cells_get hg (by simpa using hxl)];simp only[Option.bind_some,List.take_zero,oneCells,List.all_nil,if_true,stay];exact kk
 | cons a m=>
  rcases hs with ⟨_,h⟩|⟨b2,o2,sp2,cap2,xs,rfl,hg,hx,hxl,_⟩
  ·cases h
  ·refine eG (c:=(a::m).map enc) ho hlo (by decide) (by simp) (by simpa using hsz) hg (by rw[Nat.mul_one];exact hxl) (by rw[Nat.mul_one];exact hx) ?_ ?_
   ·unfold oneCells
    rw[List.all_eq_true];intro x hx;obtain⟨y,_,rfl⟩:=List.mem_map.1 hx;exact h1 y
   ·intro v' H' q1 q2 q3
    exact k v' H' H.length hAH (by rw[List.map_append];exact q1) q2
set_option linter.defProp false in
def di:=And.intro @Int.cast_ofNat_Int (And.intro @ite_self.{1} (And.intro @fB (And.intro @kD (And.intro @dO (And.intro @qp (And.intro @oQ (And.intro @dK (And.intro @ll (And.intro @lr (And.intro @n8 (And.intro @nY @qo)))))))))))
theorem bp{P:Prop}(h:P:=by simp(disch:=first|omega|(simp only[aD];omega))only[evB,di,Nat.reduceAdd,Nat.reduceBEq,Int.reduceToNat, *];rfl):P:=h
theorem aJ{cp:FuncId→Option CF}{lo:Nat}{l:List (Nat×E)}{chk:List E}{Q:aX}{S:List Value}{H:Heap}{vs:List (Nat×Value)}{S':List Value}(k:Q .normal S' H)(h:evSets S H l=some vs:=by exact bp)(hc:evChk S H chk=true:=by simp(disch:=first|omega|(simp only[aD];omega))only[evB,di,Nat.reduceAdd,Nat.reduceBEq,Int.reduceToNat, *])(hS:setAll S vs=S':=by exact bp):wpS cp lo (.sets l chk) Q S H:=eF h hc hS k
theorem gV{cp:FuncId→Option CF}{lo:Nat}{l:List (Nat×E)}{chk:List E}{Q:aX}{S:List Value}{H:Heap}{vs:List (Nat×Value)}{dst:Option Nat}{o:HOp}{a:E}{xs:List Value}(k:wpH cp lo o xs H fun v H'=>Q .normal (setD (setAll S vs) dst v) H')(h:evSets S H l=some vs:=by exact bp)(hc:evChk S H chk=true:=by simp(disch:=first|omega|(simp only[aD];omega))only[evB,di,Nat.reduceAdd,Nat.reduceBEq,Int.reduceToNat, *])(ha:ev S H a=some xs:=by exact bp):wpS cp lo (.hv l chk [] dst o a) Q S H:=gG h hc ha k
theorem aK{cp:FuncId→Option CF}{lo:Nat}{l:List (Nat×E)}{chk:List E}{Q:aX}{S:List Value}{H:Heap}{vs:List (Nat×Value)}{dst:Option Nat}{o:HOp}{a:E}{xs:List Value}{S':List Value}{H':Heap}{v:Value}(hcall:o.isCall=false)(k:Q .normal S' H')(h:evSets S H l=some vs:=by exact bp)(hc:evChk S H chk=true:=by simp(disch:=first|omega|(simp only[aD];omega))only[evB,di,Nat.reduceAdd,Nat.reduceBEq,Int.reduceToNat, *])(ha:ev S H a=some xs:=by exact bp)(ho:aR lo o xs H=some (v,H'):=by exact bp)(hS:setD (setAll S vs) dst v=S':=by exact bp):wpS cp lo (.hv l chk [] dst o a) Q S H:=eV hcall h hc ha ho hS k
theorem bJ{cp:FuncId→Option CF}{lo:Nat}{c:E}{a b:Stm}{Q:aX}{S:List Value}{H:Heap}{t:Bool}(k1:t=true→wpS cp lo a Q S H)(k2:t=false→wpS cp lo b Q S H)(h:ev1 S H c=some (.bool t):=by exact bp):wpS cp lo (.cond c a b) Q S H:=aF h k1 k2
theorem bu{cf:CF}{R:Value→Heap→Prop}{S:List Value}{H:Heap}{vs:List Value}(k:R (aP vs) H)(h:evList S H cf.res=some vs:=by exact bp):aS cf R .ret S H:=eM h k
theorem uV{lo:Nat}{H:Heap}{l:List UInt8}(hlo:lo≤H.length)(hl:l.length≤44)(hd:∀b ∈ l,bg b=true) :
  Ev cp lo 24 [bh l] H (fun r H'=>Ext H H'∧SlN H' r (dw l)∧∃b sp,H.length≤b∧r=.slice (some ⟨b,0,sp⟩) (dw l).length (dw l).length∧H'.get b=some ((dw l).map ag)):=by
 have hd1:∀b ∈ (49::l:List UInt8),bg b=true:=by
  intro b hb;rcases List.mem_cons.1 hb with rfl|hb
  ·decide
  ·exact hd b hb
 have hdg:dgt (49::l)=1::dgt l:=rfl;have hN:=mB hd;have hNp:aY 10 (1::dgt l)≠0:=by
  have:=Nat.pow_pos (n:=l.length) (show 0<10 by decide);omega
 have hw:=gD hd;have hlm:(aj (aY 10 (1::dgt l))).length≤45:=kS (Nat.lt_of_lt_of_le hN.1 (by
  calc 2*10^l.length≤2*10^44:=Nat.mul_le_mul_left _ (Nat.pow_le_pow_right (by decide) hl)
   _≤W32^45:=by decide))
 unfold dw j7 at hw ⊢;rw[List.length_reverse]at hw;refine LG ?_;unfold EC zm;simp only[kB,aA];repeat' ((first|refine aJ ?_|refine aK rfl ?_);(try simp only[aA]))
 refine gV ?_;refine aC (EV (l:=49::l) hlo (by simp;omega) (by simp) (show(49:UInt8).toNat≠48 by decide) hd1) ?_;rw[hdg];rintro r H1 ⟨hx1,w,rfl,hv⟩;generalize aY 10 (1::dgt l)=N at *;clear hN;have hv0:=hv;obtain⟨m,rfl,hm⟩:=hv;have hlen:=hx1.1;have hx2:=Ext.push H1 (some [.bool false,m]);obtain⟨am,cm,rfl⟩:=hm.len;(try simp only[aA]);repeat' ((first|refine aJ ?_|refine aK rfl ?_);(try simp only[aA]))
 refine gV ?_;refine aC (BP (B:=900) (by simp;omega) (hv0.mono hx2) (by omega) (by omega) hNp (by omega)) ?_;rintro r H3 ⟨hx3,w,rfl,hw3,b,sp,hb1,hb2,hb3⟩;have hx21:=hx2.1;replace hb2:=Or.inr (a:=False) hb2;(try simp only[aA]);repeat' ((first|refine aJ ?_|refine aK rfl ?_);(try simp only[aA]))
 refine bu ?_;exact⟨(hx1.trans hx2).trans hx3,hw3,b,sp,by omega,by rw[List.length_reverse];exact hb2.resolve_left id,hb3⟩
theorem AP{lo:Nat}{H:Heap}{l:List UInt8}(hlo:lo≤H.length)(hl:l.length≤44)(hd:∀b ∈ l,bg b=true) :
  Ev cp lo 24 [bh l] H (fun r H'=>Ext H H'∧SlN H' r (dw l)):=(uV hlo hl hd).mono fun _ _ h=>⟨h.1,h.2.1⟩
def IsR(H:Heap)(r:Value)(p:List Nat×Nat):Prop:=∃v,r=.tuple #[v,.int .i64 (p.2:Nat)]∧SlN H v p.1
def gK(l:List UInt8):List Nat×Nat:=if 4096<l.length then([],4) else if l.all bg then(iS l,0) else([],6)
theorem qJ{l:List UInt8}{i:Nat}(h:l.all bg=true)(hi:i<l.length):bg (l.getD i 0)=true:=by
 rw[List.getD_eq_getElem?_getD,List.getElem?_eq_getElem hi];exact List.all_eq_true.1 h _ (List.getElem_mem hi)
theorem zk{l:List UInt8}{i:Nat}(hi:i<l.length)(h:bg (l.getD i 0)=false):l.all bg=false:=by
 cases e:l.all bg with
 | false=>rfl
 | true=>rw[qJ e hi]at h;cases h
theorem pw{l:List UInt8}(h:∀j,j<l.length→bg (l.getD j 0)=true):l.all bg=true:=by
 rw[List.all_eq_true];intro b hb;obtain⟨j,hj,rfl⟩:=List.mem_iff_getElem.1 hb;have:=h j hj;rwa [List.getD_eq_getElem?_getD,List.getElem?_eq_getElem hj]at this
theorem zM{lo:Nat}{H:Heap}{l:List UInt8}(hlo:lo≤H.length)(hl:l.length≤9223372036854775807) :
  Ev cp lo 13 [bh l] H (fun r H'=>Ext H H'∧IsR H' r (gK l)):=by
 unfold gK;refine LA ?_;unfold Ck zL;simp only[kB,aA];repeat' ((first|refine aJ ?_|refine aK rfl ?_);(try simp only[aA]))
 refine bJ (fun h=>?_) (fun h=>?_)
 ·have hc:4096<l.length:=by simp only[decide_eq_true_eq]at h;omega
  clear h;(try simp only[aA]);repeat' ((first|refine aJ ?_|refine aK rfl ?_);(try simp only[aA]))
  refine bu ?_;rw[if_pos hc];exact⟨Ext.refl _,_,rfl,.inl ⟨rfl,rfl⟩⟩
 have hc:l.length≤4096:=by simp only[decide_eq_false_iff_not]at h;omega
 clear h;rw[if_neg (by omega)];(try simp only[aA]);repeat' ((first|refine aJ ?_|refine aK rfl ?_);(try simp only[aA]))
 refine ai (fun i S H'=>H=H'∧(∀j,j<i→bg (l.getD j 0)=true)∧∃(z:Nat→Value),S=[bh l,z 1,z 2,z 3,z 4,z 5,.int .i64 (l.length:Nat),.int .i64 (i:Nat),z 8,z 9,z 10]) l.length ?_ ?_ ?_ ?_
 ·exact⟨rfl,fun j hj=>by omega,aE rfl⟩
 ·rintro i S H' hi ⟨rfl,-,z,rfl⟩
  exact⟨_,bp,by simp⟩
 ·rintro i S H' hi ⟨rfl,hall,z,rfl⟩
  (try simp only[aA]);repeat' ((first|refine aJ ?_|refine aK rfl ?_);(try simp only[aA]))
  refine bJ (fun h=>?_) (fun h=>?_)
  ·have hno:bg (l.getD i 0)=false:=by
    simp only[Bool.or_eq_true,decide_eq_true_eq]at h;simp only[bg,Bool.and_eq_false_iff,decide_eq_false_iff_not];omega
   clear h;(try simp only[aA]);(repeat' ((first|refine aJ ?_|refine aK rfl ?_);(try simp only[aA])));refine bu ?_;rw[zk hi hno];exact⟨Ext.refl _,_,rfl,.inl ⟨rfl,rfl⟩⟩
  ·have hyes:bg (l.getD i 0)=true:=by
    simp only[Bool.or_eq_false_iff,decide_eq_false_iff_not]at h;simp only[bg,Bool.and_eq_true,decide_eq_true_eq];omega
   clear h;(try simp only[aA]);(repeat' ((first|refine aJ ?_|refine aK rfl ?_);(try simp only[aA])));refine⟨by trivial,fun j hj=>?_,aE (by first|rfl|(simp only[Int.natCast_add,Int.natCast_one];rfl)|simp only[Int.natCast_add,Int.natCast_one])⟩;by_cases e:j=i
   ·subst e;exact hyes
   ·exact hall j (by omega)
 ·rintro S H' ⟨rfl,hall,z,rfl⟩
  have hall:=pw hall;rw[hall];have hmem:=List.all_eq_true.1 hall;have hwl:=fx _ (Nat.le_refl _) hmem;clear hall;(try simp only[aA]);repeat' ((first|refine aJ ?_|refine aK rfl ?_);(try simp only[aA]))
  refine bk (fun m S H'=>Ext H H'∧∃(a:Nat) (D:List Nat) (w:Value) (b:Nat),(l.length≤m+a∧(a≤l.length→m+a≤l.length))∧(D++iS (l.drop a)=iS l∨False)∧H.length≤b∧Own lo 1 H' w b (D.map ag)∧a≤5000∧(∃(z:Nat→Value),S=[bh l,z 1,z 2,z 3,w,.int .i64 (a:Nat),z 6,z 7,z 8,z 9,z 10])) l.length ?_ ?_
  ·exact⟨Ext.refl _,0,[],_,H.length,by omega,.inl rfl,Nat.le_refl _,Own.nil hlo,by omega,aE rfl⟩
  rintro m S H' ⟨hx,a,D,w,b,hm,hs,hb,ho,ha,z,rfl⟩;obtain⟨aw,rfl⟩:=qT ho;have hlen:=hx.1;by_cases hi:a<l.length
  ·have hDl:D.length≤20000:=by
    have:=congrArg List.length (hs.resolve_right id);rw[List.length_append]at this;omega
   have hp:=gO (l:=l.drop a) (by simp;omega);rw[List.drop_drop]at hp;have ht:(l.drop a).take 44=(l.take (min (a+44) l.length)).drop a:=by
    rw[List.drop_take];rcases Nat.le_total (a+44) l.length with h|h
    ·rw[Nat.min_eq_left h];congr 1;omega
    ·rw[Nat.min_eq_right h,List.take_of_length_le (by simp;omega),List.take_of_length_le (by simp)]
   obtain⟨e,he⟩:∃e,min (a+44) l.length=e:=⟨_,rfl⟩;have he2:a≤e∧e≤l.length∧e≤a+44:=by omega
   rw[he]at ht;have emin:aG (.minmax false) [.int .i64 ((a:Int)+44),.int .i64 (l.length:Nat)] H'=some (.int .i64 (e:Nat)):=by
    simp only[aG,List.foldlM_cons,List.foldlM_nil,il,Bool.false_eq_true,if_false];by_cases h:(l.length:Int)<(a:Int)+44
    ·rw[if_pos h];simp;omega
    ·rw[if_neg h];simp;omega
   (try simp only[aA]);refine bJ (fun h=>?_) (fun h=>?_)
   ·clear h
    (try simp only[aA]);(repeat' ((first|refine aJ ?_|refine aK rfl ?_);(try simp only[aA])));refine gV ?_;refine aC (AP (l:=(l.take e).drop a) (by omega) (by simp;omega) (fun b hb=>hmem b (List.mem_of_mem_take (List.mem_of_mem_drop hb)))) ?_;rintro r H2 ⟨hx2,hr⟩;have hlen2:=hx2.1;have hgl:=gD (l:=(l.take e).drop a) (fun b hb=>hmem b (List.mem_of_mem_take (List.mem_of_mem_drop hb)));simp at hgl;(try simp only[aA]);refine gV ?_;refine lq (enc:=ag) (fun _=>rfl) (A:=H.length) (by omega) hb (by omega) (ho.mono hx2) hr (by omega) ?_;intro v' H4 b' hb4 ho4 hk4;have hx4:=hk4.ext (hx.trans hx2) hb;clear ho emin;(try simp only[aA]);(repeat' ((first|refine aJ ?_|refine aK rfl ?_);(try simp only[aA])));simp only[dP];refine⟨l.length-(a+44),by omega,hx4,a+44,D++dw ((l.take e).drop a),v',b',by omega,.inl ?_,hb4,ho4,by omega,aE (by first|rfl|(simp only[Int.natCast_add,Int.natCast_one];rfl)|simp only[Int.natCast_add,Int.natCast_one])⟩;rw[←hs.resolve_right id,hp,ht,List.append_assoc]
   ·simp only[decide_eq_false_iff_not]at h;omega
  ·have hfin:=hs.resolve_right id
   rw[List.drop_eq_nil_of_le (by omega),eJ,List.append_nil]at hfin;(try simp only[aA]);refine bJ (fun h=>?_) (fun h=>?_)
   ·simp only[decide_eq_true_eq]at h;omega
   clear h;have hsl:SlN H' (.slice aw D.length D.length) (iS l):=by rw[←hfin];exact Sl.ofOwn ho
   clear hfin hs ho;(try simp only[aA]);(repeat' ((first|refine aJ ?_|refine aK rfl ?_);(try simp only[aA])));refine bu ?_;exact⟨hx,_,rfl,hsl⟩
def Grow(lo:Nat)(H:Heap)(v:Value)(b:Nat)(c:List Value):Prop:=
 lo≤b∧((v=.slice none 0 0∧c=[])∨(0<c.length∧(∃sp,v=.slice (some ⟨b,0,sp⟩) c.length c.length∧(sp=none∨sp=some 1))∧H.get b=some c))
theorem Grow.nil{lo:Nat}{H:Heap}{b:Nat}(h:lo≤b):Grow lo H (.slice none 0 0) b []:=⟨h,.inl ⟨rfl,rfl⟩⟩
theorem Grow.lit{lo:Nat}{H:Heap}{b n:Nat}{c:List Value}(h:lo≤b)(hg:H.get b=some c)(hn:c.length=n)(h0:0<n):Grow lo H (.slice (some ⟨b,0,none⟩) n n) b c:=
 ⟨h,.inr ⟨by omega,⟨none,by rw[hn],.inl rfl⟩,hg⟩⟩
theorem Grow.mono{lo b:Nat}{H H':Heap}{v:Value}{c:List Value}(h:Grow lo H v b c)(e:Ext H H'):Grow lo H' v b c:=by
 obtain⟨h1,h|⟨a,b,d⟩⟩:=h
 ·exact⟨h1,.inl h⟩
 ·exact⟨h1,.inr ⟨a,b,e.get d⟩⟩
theorem Grow.keep{lo b b2:Nat}{H H':Heap}{v:Value}{c:List Value}(h:Grow lo H v b c)(e:Keep b2 H H')(hne:b≠b2):Grow lo H' v b c:=by
 obtain⟨h1,h|⟨a,b,d⟩⟩:=h
 ·exact⟨h1,.inl h⟩
 ·exact⟨h1,.inr ⟨a,b,e.get d hne⟩⟩
theorem Grow.lower{lo lo' b:Nat}{H:Heap}{v:Value}{c:List Value}(h:Grow lo H v b c)(e:lo'≤lo):Grow lo' H v b c:=⟨Nat.le_trans e h.1,h.2⟩
theorem Grow.sl{α:Type}{enc:α→Value}{lo b:Nat}{H:Heap}{v:Value}{l:List α}(h:Grow lo H v b (l.map enc)):Sl enc H v l:=by
 obtain⟨_,⟨rfl,h⟩|⟨_,⟨sp,rfl,hs⟩,hg⟩⟩:=h
 ·exact .inl ⟨rfl,by simpa using h⟩
 ·rw[List.length_map];exact Sl.whole hg rfl hs
theorem Grow.len{α:Type}{enc:α→Value}{lo b:Nat}{H:Heap}{v:Value}{l:List α}(h:Grow lo H v b (l.map enc)):∃a,v=.slice a l.length l.length:=by
 obtain⟨_,⟨rfl,h⟩|⟨_,⟨sp,rfl,hs⟩,hg⟩⟩:=h
 ·have:l=[]:=by simpa using h
  subst this;exact⟨none,rfl⟩
 ·exact⟨_,by rw[List.length_map]⟩
theorem Grow.off{A lo:Nat}{H:Heap}{v:Value}{b:Nat}{c:List Value}(h:Grow lo H v b c)(hA:A≤b){n:Nat}(hn:A≤n)(hlo:lo≤n):∃b',Grow lo H v b' c∧A≤b'∧(b'<H.length∨n≤b'):=by
 obtain⟨h1,⟨h2,h3⟩|⟨h2,h3,h5⟩⟩:=h
 ·exact⟨n,⟨hlo,.inl ⟨h2,h3⟩⟩,hn,.inr (Nat.le_refl _)⟩
 ·exact⟨b,⟨h1,.inr ⟨h2,h3,h5⟩⟩,hA,.inl (Heap.get_lt h5)⟩
theorem DS{α:Type}{enc:α→Value}(h1:∀a,(enc a).oneCell'=true)(l:List α):oneCells (l.map enc)=true:=by
 unfold oneCells;rw[List.all_eq_true];intro x hx;obtain⟨y,_,rfl⟩:=List.mem_map.1 hx;exact h1 y
theorem iH{α:Type}{enc:α→Value}(h1:∀a,(enc a).oneCell'=true){A lo:Nat}{H:Heap}{v w:Value}{b:Nat}{l m:List α}{z:List Value}{R:Value→Heap→Prop}(hlo:lo≤H.length)(hA:A≤b)(hAH:A≤H.length)
  (ho:Grow lo H v b (l.map enc)) (hs:Sl enc H w m) (hsz:l.length+m.length≤4294967296)
  (k:∀v' H' b',A≤b'→Grow lo H' v' b' ((l++m).map enc)→Keep b H H'→R v' H'):wpH cp lo (.app 1 z) [v,w] H R:=by
 have ofOwn:∀v' H' b',A≤b'→Own lo 1 H' v' b' ((l++m).map enc)→Keep b H H'→R v' H':=by
  intro v' H' b' q1 q2 q3;refine k v' H' b' q1 ?_ q3;obtain⟨r1,⟨r2,r3⟩|⟨n,r2,r3,r4,r5⟩⟩:=q2
  ·exact⟨r1,.inl ⟨r2,r3⟩⟩
  ·exact⟨r1,.inr ⟨by omega,⟨some 1,by rw[r4,show n=((l++m).map enc).length by omega],.inr rfl⟩,r5⟩⟩
 obtain⟨hb,⟨rfl,hl⟩|⟨hp,⟨sp,rfl,rfl|rfl⟩,hg⟩⟩:=ho
 ·exact lq h1 hlo hA hAH ⟨hb,.inl ⟨rfl,hl⟩⟩ hs hsz ofOwn
 ·cases m with
  | nil=>
   have kk:=k (.slice (some ⟨b,0,none⟩) (l.map enc).length (l.map enc).length) H b hA (by rw[List.append_nil];exact⟨hb,.inr ⟨hp,⟨none,rfl,.inl rfl⟩,hg⟩⟩) ⟨Nat.le_refl _,fun _ _ _=>rfl⟩;have stay:bI lo 1 (.slice (some ⟨b,0,none⟩) (l.map enc).length (l.map enc).length) [] 0 H=some (.slice (some ⟨b,0,none⟩) (l.map enc).length (l.map enc).length,H):=by
    simp only[bI,Nat.add_zero,Nat.le_refl,if_true,true_or];rw[iY hg hb (by simp only[Nat.zero_add,List.length_nil,Nat.add_zero];omega)];have:putCells (l.map enc) (0+(l.map enc).length*1) []=l.map enc:=by simp[putCells]
    rw[this,gY hg];rfl
   rcases hs with ⟨rfl,_⟩|⟨b2,o2,sp2,cap2,xs,rfl,hg2,hx,hxl,_⟩
   ·simp only[wpH,aR,hsem,if_true,stay];exact kk
   ·simp only[wpH,aR,hsem,List.length_nil,Nat.zero_mul]
    rw[cells_get hg2 (by simpa using hxl)];simp only[Option.bind_some,List.take_zero,oneCells,List.all_nil,if_true,stay];exact kk
  | cons a m=>
   rcases hs with ⟨_,h⟩|⟨b2,o2,sp2,cap2,xs,rfl,hg2,hx,hxl,_⟩
   ·cases h
   ·have e:aR lo (.app 1 z) [.slice (some ⟨b,0,none⟩) (l.map enc).length (l.map enc).length,.slice (some ⟨b2,o2,sp2⟩) (a::m).length cap2] H =
      some (.slice (some ⟨H.length,0,some 1⟩) ((l.map enc).length+(a::m).length) ((l.map enc).length+(a::m).length),H++[some (l.map enc++(a::m).map enc)]):=by
     simp only[aR,hsem];rw[cells_get hg2 (by rw[Nat.mul_one];exact hxl)];simp only[Option.bind_some,Nat.mul_one,hx,DS h1,if_true,bI];rw[if_neg (by simp),if_neg (by unfold bj;rw[List.length_map];omega)];rw[cells_get hg (by omega)];simp;rw[List.take_of_length_le (by simp)]
    simp only[wpH];rw[e];refine k _ _ H.length hAH ⟨hlo,.inr ⟨by simp;omega,⟨some 1,by simp,.inr rfl⟩,?_⟩⟩ ⟨by simp,fun i hi _=>iV hi⟩;rw[aQ,List.map_append]
 ·refine lq h1 hlo hA hAH (b:=b) ⟨hb,.inr ⟨_,hp,by simp,rfl,hg⟩⟩ hs hsz ofOwn
theorem Da{lo:Nat}{H:Heap}{l:List UInt8}(hlo:lo≤H.length)(hl:l.length≤44)(hd:∀b ∈ l,bg b=true) :
  Ev cp lo 25 [bh l] H (fun r H'=>Ext H H'∧SlN H' r (dw l)):=by
 refine LR ?_;unfold EI xS;simp only[kB,aA];repeat' ((first|refine aJ ?_|refine aK rfl ?_);(try simp only[aA]))
 refine ai (fun i S H'=>Ext H H'∧∃(w:Value) (b:Nat),H.length≤b∧Grow lo H' w b ((1::dgt (l.take i)).map ag)∧∃(z:Nat→Value),S=[bh l,z 1,w,.int .i64 (i:Nat),z 4,z 5,z 6,z 7,z 8,z 9,z 10,z 11,z 12,z 13,z 14,z 15,z 16,z 17,z 18,z 19]) l.length ?_ ?_ ?_ ?_
 ·exact⟨Ext.push _ _,_,H.length,Nat.le_refl _,Grow.lit hlo (aQ _ _) rfl Nat.one_pos,aE rfl⟩
 ·rintro i S H' hi ⟨hx,w,b,-,-,z,rfl⟩
  exact⟨_,bp,by simp⟩
 ·rintro i S H' hi ⟨hx,w,b,hb,ho,z,rfl⟩
  have hbi:=qJ (List.all_eq_true.2 hd) hi;have hdt:dgt (l.take (i+1))=dgt (l.take i)++[(l.getD i 0).toNat-48]:=by
   unfold dgt;rw[List.take_add_one,List.getElem?_eq_getElem hi,List.getD_eq_getElem?_getD,List.getElem?_eq_getElem hi];simp only[Option.toList_some,List.map_append,List.map_cons,List.map_nil,Option.getD_some]
  have hll:(dgt (l.take i)).length≤44:=by simp[dgt];omega
  generalize hbt:l.getD i 0=bt at *;have hbr:48≤bt.toNat∧bt.toNat≤57:=by simpa[bg]using hbi
  clear hbi;obtain⟨x,hx1,hx2⟩:∃x:Nat,bt.toNat≤x+48∧x+48≤bt.toNat:=⟨bt.toNat-48,by omega,by omega⟩;have exi:IntKind.u8.wrap ((bt.toNat:Int)-48)=(x:Nat):=by
   rw[show(bt.toNat:Int)-48=(x:Nat) by omega];simp[IntKind.wrap,IntKind.bits,IntKind.signed];omega
  rw[show bt.toNat-48=x by omega]at hdt;have hlen:=hx.1;(try simp only[aA]);repeat' ((first|refine aJ ?_|refine aK rfl ?_);(try simp only[aA]))
  refine gV ?_;have hxd:=Ext.push H' (some [ag x]);refine iH (enc:=ag) (fun _=>rfl) (A:=H.length) (m:=[x]) (by simp;omega) hb (by simp;omega) (ho.mono hxd) (Sl.whole (aQ _ _) rfl) (by simp;omega) ?_;intro v' H4 b' hb4 ho4 hk4;have hx4:=hk4.ext (hx.trans hxd) hb;clear ho;(try simp only[aA]);repeat' ((first|refine aJ ?_|refine aK rfl ?_);(try simp only[aA]))
  exact⟨hx4,v',b',hb4,by rw[hdt];exact ho4,aE (by first|rfl|(simp only[Int.natCast_add,Int.natCast_one];rfl)|simp only[Int.natCast_add,Int.natCast_one])⟩
 ·rintro S H' ⟨hx,w,b,hb,ho,z,rfl⟩
  rw[List.take_length]at ho;have hw:SlN H' w (dec (aY 10 (1::dgt l))):=by rw[u0 hd];exact ho.sl
  clear ho;have hgl:=gD hd;have hN2:aY 10 (1::dgt l)<10^50:=Nat.lt_of_lt_of_le (mB hd).1 (by
   calc 2*10^l.length≤2*10^44:=Nat.mul_le_mul_left _ (Nat.pow_le_pow_right (by decide) hl)
    _≤10^50:=by decide)
  unfold dw at hgl ⊢;generalize aY 10 (1::dgt l)=N at *;have hlen:=hx.1;(try simp only[aA]);repeat' ((first|refine aJ ?_|refine aK rfl ?_);(try simp only[aA]))
  refine bk (fun m S H2=>Ext H H2∧m<10^50∧∃(w u:Value) (out:List Nat),SlN H2 w (dec m)∧SlN H2 u out∧(j7 m++out=j7 N∨False)∧∃(z:Nat→Value),S=[z 0,z 1,w,z 3,u,z 5,z 6,z 7,z 8,z 9,z 10,z 11,z 12,z 13,z 14,z 15,z 16,z 17,z 18,z 19]) N ?_ ?_
  ·exact⟨hx,hN2,w,_,[],hw,.inl ⟨rfl,rfl⟩,.inl (by simp),aE rfl⟩
  rintro M S H2 ⟨hx2,hM,w,u,out,hw2,hu,hs,z,rfl⟩;have hw0:=hw2;have hu0:=hu;obtain⟨aw,cw,rfl⟩:=hw2.len;obtain⟨au,cu,rfl⟩:=hu.len;have hlen2:=hx2.1;have hdl:(dec M).length≤50:=by unfold dec;rw[List.length_reverse];exact cz (by decide) 50 M hM
  have hol:out.length≤45:=by
   have:=congrArg List.length (hs.resolve_right id);rw[List.length_append]at this;omega
  (try simp only[aA]);refine bJ (fun h=>?_) (fun h=>?_)
  ·have hM0:M≠0:=by
    rintro rfl;rw[jc]at h;simp at h
   clear h;(try simp only[aA]);(repeat' ((first|refine aJ ?_|refine aK rfl ?_);(try simp only[aA])));refine ai (fun i S H3=>Ext H2 H3∧∃(q:Value) (b:Nat),H2.length≤b∧Grow lo H3 q b ((dec (aY 10 ((dec M).take i)/900)).map ag)∧∃(z:Nat→Value),S=[z 0,z 1,.slice aw (dec M).length cw,z 3,.slice au out.length cu,q,ag (aY 10 ((dec M).take i)%900),.int .i64 (i:Nat),z 8,z 9,z 10,z 11,z 12,z 13,z 14,z 15,z 16,z 17,z 18,z 19]) (dec M).length ?_ ?_ ?_ ?_
   ·exact⟨Ext.refl _,_,H2.length,Nat.le_refl _,by simpa[aY,jc]using Grow.nil (H:=H2) (b:=H2.length) (show lo≤H2.length by omega),aE rfl⟩
   ·rintro i S H3 hi ⟨hx3,q,b,-,-,z,rfl⟩
    exact⟨_,bp,by simp⟩
   ·rintro i S H3 hi ⟨hx3,q,b,hb,ho,z,rfl⟩
    obtain⟨b2,o2,sp2,cap2,xs,e,g,hat⟩:=l7 hw0 hi;cases e;have g:=hx3.get g;have hnt:=gy (B:=10) hi;have hdi:(dec M).getD i 0<10:=by
     rw[List.getD_eq_getElem?_getD,List.getElem?_eq_getElem hi];exact dec_lt M _ (List.getElem_mem _)
    have hVl:aY 10 ((dec M).take i)<10^50:=Nat.lt_of_lt_of_le (fY (dec_lt M) i (by omega)) (Nat.pow_le_pow_right (by decide) (by omega));have hql:(dec (aY 10 ((dec M).take i)/900)).length≤50:=by
     unfold dec;rw[List.length_reverse];exact cz (by decide) 50 _ (Nat.lt_of_le_of_lt (Nat.div_le_self _ _) hVl)
    clear hVl;rw[hnt];clear hnt;generalize aY 10 ((dec M).take i)=V at *;generalize (dec M).getD i 0=d at *;have hV:=Nat.div_add_mod V 900;have hr:=Nat.mod_lt V (show 900>0 by decide);generalize V/900=a at *;generalize V%900=r at *;obtain⟨aq,rfl⟩:=ho.len;have hlen3:=hx3.1;obtain⟨t,ht,ht2⟩:∃t,t≤10*r+d∧10*r+d≤t:=⟨_,Nat.le_refl _,Nat.le_refl _⟩;have e1:(V*10+d)/900=10*a+t/900:=by omega
    have e2:(V*10+d)%900=t%900:=by omega
    have ht9:t/900<10:=by omega
    have et:(10:Int)*(r:Nat)+(d:Nat)=(t:Nat):=by omega
    have eq1:(t:Int).tdiv 900=((t/900:Nat):Int):=Int.ofNat_tdiv t 900;have eq2:(t:Int).tmod 900=((t%900:Nat):Int):=Int.ofNat_tmod t 900;have hV1:900*a+r≤V∧V≤900*a+r:=by omega
    clear hV hu hu0 hw hw2;(try simp only[aA]);(repeat' ((first|refine aJ ?_|refine aK rfl ?_);(try simp only[aA])));refine bJ (fun h=>?_) (fun h=>?_)
    ·have hne:10*a+t/900≠0:=by
      intro e;have ha:a=0:=by omega
      subst ha;rw[jc]at h;simp at h;omega
     clear h hat g e1 e2;(try simp only[aA]);(repeat' ((first|refine aJ ?_|refine aK rfl ?_);(try simp only[aA])));refine gV ?_;have hxd:=Ext.push H3 (some [ag (t/900)]);refine iH (enc:=ag) (fun _=>rfl) (A:=H2.length) (m:=[t/900]) (by simp;omega) hb (by simp;omega) (ho.mono hxd) (Sl.whole (aQ _ _) rfl) (by simp;omega) ?_;intro v' H4 b' hb4 ho4 hk4;have hx4:=hk4.ext (hx3.trans hxd) hb;clear ho;(try simp only[aA]);(repeat' ((first|refine aJ ?_|refine aK rfl ?_);(try simp only[aA])));exact⟨hx4,v',b',hb4,by rw[show(V*10+d)/900=10*a+t/900 by omega,sX ht9 hne];exact ho4,aE (by rw[show(V*10+d)%900=t%900 by omega];exact(by first|rfl|(simp only[Int.natCast_add,Int.natCast_one];rfl)|simp only[Int.natCast_add,Int.natCast_one]))⟩
    ·have ha:a=0:=by
      apply Decidable.byContradiction;intro ha;have:0<(dec a).length:=List.length_pos_iff.2 fun e=>ha (qc.1 e);simp only[Bool.or_eq_false_iff,decide_eq_false_iff_not]at h;omega
     have hb0:t/900=0:=by
      simp only[Bool.or_eq_false_iff,decide_eq_false_iff_not]at h;omega
     clear h hat g e1 e2;subst ha;(try simp only[aA]);(repeat' ((first|refine aJ ?_|refine aK rfl ?_);(try simp only[aA])));exact⟨hx3,.slice aq (dec 0).length (dec 0).length,b,hb,by rw[show(V*10+d)/900=0 by omega];exact ho,aE (by rw[show(V*10+d)%900=t%900 by omega];exact(by first|rfl|(simp only[Int.natCast_add,Int.natCast_one];rfl)|simp only[Int.natCast_add,Int.natCast_one]))⟩
   ·rintro S H3 ⟨hx3,q,b,hb,ho,z,rfl⟩
    rw[List.take_length,sU]at ho;rw[List.take_length,sU];have hq:SlN H3 q (dec (M/900)):=ho.sl;have hu3:=hu0.mono hx3;have hlen3:=hx3.1;have hb9:=zx hM0;have hMd:M/900<M:=Nat.div_lt_self (by omega) (by decide);generalize M/900=M2 at *;generalize M%900=r at *;clear ho hu hw hw2 hw0 hu0;(try simp only[aA]);(repeat' ((first|refine aJ ?_|refine aK rfl ?_);(try simp only[aA])));refine gV ?_;have hx4:Ext H3 (H3++[some [ag r],some [ag r]]):=Ext.app _ _;refine iH (enc:=ag) (fun _=>rfl) (A:=H3.length) (b:=H3.length+1) (l:=[r]) (m:=out) (by simp;omega) (by omega) (by simp) ⟨by omega,.inr ⟨Nat.one_pos,⟨some 1,rfl,.inr rfl⟩,by rw[dH];rfl⟩⟩ (hu3.mono hx4) (by simp;omega) ?_;intro v5 H5 b5 hb5 ho5 hk5;have hx5:=hk5.ext hx4 (by omega);(try simp only[aA]);(repeat' ((first|refine aJ ?_|refine aK rfl ?_);(try simp only[aA])));simp only[dP];refine⟨M2,hMd,(hx2.trans hx3).trans hx5,by omega,q,v5,r::out,hq.mono hx5,ho5.sl,.inl ?_,aE rfl⟩;rw[←hs.resolve_right id,hb9];simp
  ·have hM0:M=0:=by
    apply Decidable.byContradiction;intro hM0;have:0<(dec M).length:=List.length_pos_iff.2 fun e=>hM0 (qc.1 e);simp only[decide_eq_false_iff_not]at h;omega
   clear h;subst hM0;have hfin:=hs.resolve_right id;rw[pY,List.nil_append]at hfin;rw[←hfin];clear hfin hs;(try simp only[aA]);(repeat' ((first|refine aJ ?_|refine aK rfl ?_);(try simp only[aA])));refine bu ?_;exact⟨hx2,hu0⟩
theorem GJ{lo:Nat}{H:Heap}{l:List UInt8}(hlo:lo≤H.length)(hl:l.length≤9223372036854775807) :
  Ev cp lo 14 [bh l] H (fun r H'=>Ext H H'∧IsR H' r (gK l)):=by
 unfold gK;refine Lq ?_;unfold Ez xZ;simp only[kB,aA];repeat' ((first|refine aJ ?_|refine aK rfl ?_);(try simp only[aA]))
 refine bJ (fun h=>?_) (fun h=>?_)
 ·have hc:4096<l.length:=by simp only[decide_eq_true_eq]at h;omega
  clear h;(try simp only[aA]);repeat' ((first|refine aJ ?_|refine aK rfl ?_);(try simp only[aA]))
  refine bu ?_;rw[if_pos hc];exact⟨Ext.refl _,_,rfl,.inl ⟨rfl,rfl⟩⟩
 have hc:l.length≤4096:=by simp only[decide_eq_false_iff_not]at h;omega
 clear h;rw[if_neg (by omega)];(try simp only[aA]);repeat' ((first|refine aJ ?_|refine aK rfl ?_);(try simp only[aA]))
 refine ai (fun i S H'=>H=H'∧(∀j,j<i→bg (l.getD j 0)=true)∧∃(z:Nat→Value),S=[bh l,z 1,z 2,.int .i64 (i:Nat),z 4,z 5,z 6,z 7,z 8]) l.length ?_ ?_ ?_ ?_
 ·exact⟨rfl,fun j hj=>by omega,aE rfl⟩
 ·rintro i S H' hi ⟨rfl,-,z,rfl⟩
  exact⟨_,bp,by simp⟩
 ·rintro i S H' hi ⟨rfl,hall,z,rfl⟩
  (try simp only[aA]);repeat' ((first|refine aJ ?_|refine aK rfl ?_);(try simp only[aA]))
  refine bJ (fun h=>?_) (fun h=>?_)
  ·have hno:bg (l.getD i 0)=false:=by
    simp only[Bool.or_eq_true,decide_eq_true_eq]at h;simp only[bg,Bool.and_eq_false_iff,decide_eq_false_iff_not];omega
   clear h;(try simp only[aA]);(repeat' ((first|refine aJ ?_|refine aK rfl ?_);(try simp only[aA])));refine bu ?_;rw[zk hi hno];exact⟨Ext.refl _,_,rfl,.inl ⟨rfl,rfl⟩⟩
  ·have hyes:bg (l.getD i 0)=true:=by
    simp only[Bool.or_eq_false_iff,decide_eq_false_iff_not]at h;simp only[bg,Bool.and_eq_true,decide_eq_true_eq];omega
   clear h;(try simp only[aA]);(repeat' ((first|refine aJ ?_|refine aK rfl ?_);(try simp only[aA])));refine⟨by trivial,fun j hj=>?_,aE (by first|rfl|(simp only[Int.natCast_add,Int.natCast_one];rfl)|simp only[Int.natCast_add,Int.natCast_one])⟩;by_cases e:j=i
   ·subst e;exact hyes
   ·exact hall j (by omega)
 ·rintro S H' ⟨rfl,hall,z,rfl⟩
  have hall:=pw hall;rw[hall];have hmem:=List.all_eq_true.1 hall;have hwl:=fx _ (Nat.le_refl _) hmem;clear hall;(try simp only[aA]);repeat' ((first|refine aJ ?_|refine aK rfl ?_);(try simp only[aA]))
  refine bk (fun m S H'=>Ext H H'∧∃(a:Nat) (D:List Nat) (w:Value) (b:Nat),(l.length≤m+a∧(a≤l.length→m+a≤l.length))∧(D++iS (l.drop a)=iS l∨False)∧H.length≤b∧Own lo 1 H' w b (D.map ag)∧a≤5000∧(∃(z:Nat→Value),S=[bh l,z 1,z 2,z 3,w,.int .i64 (a:Nat),z 6,z 7,z 8])) l.length ?_ ?_
  ·exact⟨Ext.refl _,0,[],_,H.length,by omega,.inl rfl,Nat.le_refl _,Own.nil hlo,by omega,aE rfl⟩
  rintro m S H' ⟨hx,a,D,w,b,hm,hs,hb,ho,ha,z,rfl⟩;obtain⟨aw,rfl⟩:=qT ho;have hlen:=hx.1;by_cases hi:a<l.length
  ·have hDl:D.length≤20000:=by
    have:=congrArg List.length (hs.resolve_right id);rw[List.length_append]at this;omega
   have hp:=gO (l:=l.drop a) (by simp;omega);rw[List.drop_drop]at hp;have ht:(l.drop a).take 44=(l.take (min (a+44) l.length)).drop a:=by
    rw[List.drop_take];rcases Nat.le_total (a+44) l.length with h|h
    ·rw[Nat.min_eq_left h];congr 1;omega
    ·rw[Nat.min_eq_right h,List.take_of_length_le (by simp;omega),List.take_of_length_le (by simp)]
   obtain⟨e,he⟩:∃e,min (a+44) l.length=e:=⟨_,rfl⟩;have he2:a≤e∧e≤l.length∧e≤a+44:=by omega
   rw[he]at ht;have emin:aG (.minmax false) [.int .i64 ((a:Int)+44),.int .i64 (l.length:Nat)] H'=some (.int .i64 (e:Nat)):=by
    simp only[aG,List.foldlM_cons,List.foldlM_nil,il,Bool.false_eq_true,if_false];by_cases h:(l.length:Int)<(a:Int)+44
    ·rw[if_pos h];simp;omega
    ·rw[if_neg h];simp;omega
   (try simp only[aA]);refine bJ (fun h=>?_) (fun h=>?_)
   ·clear h
    (try simp only[aA]);(repeat' ((first|refine aJ ?_|refine aK rfl ?_);(try simp only[aA])));refine gV ?_;refine aC (Da (l:=(l.take e).drop a) (by omega) (by simp;omega) (fun b hb=>hmem b (List.mem_of_mem_take (List.mem_of_mem_drop hb)))) ?_;rintro r H2 ⟨hx2,hr⟩;have hlen2:=hx2.1;have hgl:=gD (l:=(l.take e).drop a) (fun b hb=>hmem b (List.mem_of_mem_take (List.mem_of_mem_drop hb)));simp at hgl;(try simp only[aA]);refine gV ?_;refine lq (enc:=ag) (fun _=>rfl) (A:=H.length) (by omega) hb (by omega) (ho.mono hx2) hr (by omega) ?_;intro v' H4 b' hb4 ho4 hk4;have hx4:=hk4.ext (hx.trans hx2) hb;clear ho emin;(try simp only[aA]);(repeat' ((first|refine aJ ?_|refine aK rfl ?_);(try simp only[aA])));simp only[dP];refine⟨l.length-(a+44),by omega,hx4,a+44,D++dw ((l.take e).drop a),v',b',by omega,.inl ?_,hb4,ho4,by omega,aE (by first|rfl|(simp only[Int.natCast_add,Int.natCast_one];rfl)|simp only[Int.natCast_add,Int.natCast_one])⟩;rw[←hs.resolve_right id,hp,ht,List.append_assoc]
   ·simp only[decide_eq_false_iff_not]at h;omega
  ·have hfin:=hs.resolve_right id
   rw[List.drop_eq_nil_of_le (by omega),eJ,List.append_nil]at hfin;(try simp only[aA]);refine bJ (fun h=>?_) (fun h=>?_)
   ·simp only[decide_eq_true_eq]at h;omega
   clear h;have hsl:SlN H' (.slice aw D.length D.length) (iS l):=by rw[←hfin];exact Sl.ofOwn ho
   clear hfin hs ho;(try simp only[aA]);(repeat' ((first|refine aJ ?_|refine aK rfl ?_);(try simp only[aA])));refine bu ?_;exact⟨hx,_,rfl,hsl⟩
end Go.Proofs.YtgpolmomghejoaaDoor
