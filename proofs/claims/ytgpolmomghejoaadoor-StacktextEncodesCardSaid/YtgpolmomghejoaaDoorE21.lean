/- Lemmas. -/
import Derived.Test.YtgpolmomghejoaaDoorE20
set_option linter.unusedVariables false
set_option linter.unusedSimpArgs false
set_option linter.unusedSectionVars false
namespace Go.Proofs.YtgpolmomghejoaaDoor
open Go.Abs
set_option maxRecDepth 20000
def dB(m:Nat)(f:Nat→Nat):List Value:=(List.range m).map fun j=>.int .i64 ((f j:Nat):Int)
def pE(f:Nat→Nat)(j v:Nat):Nat→Nat:=fun k=>if k=j then v else f k
theorem cE(m:Nat)(f:Nat→Nat):(dB m f).length=m:=by simp[dB]
theorem cU{m:Nat}{f:Nat→Nat}{j:Nat}(h:j<m):(dB m f)[j]?=some (.int .i64 ((f j:Nat):Int)):=by
 simp[dB,h]
theorem mN(m:Nat)(f:Nat→Nat)(j v:Nat):(dB m f).set j (.int .i64 ((v:Nat):Int))=dB m (pE f j v):=by
 refine List.ext_getElem? fun k=>?_;rw[List.getElem?_set];by_cases hk:k<m
 ·rw[cU hk]
  by_cases e:j=k
  ·subst e
   rw[if_pos rfl,cE,if_pos hk,cU hk];simp[pE]
  ·rw[if_neg e,cU hk]
   have hne:¬ k=j:=fun h=>e h.symm;simp[pE,hne]
 ·have h1:∀g,(dB m g)[k]?=none:=fun g=>List.getElem?_eq_none (by rw[cE];omega)
  rw[h1,h1,cE];split
  ·split
   ·omega
   ·rfl
  ·rfl
theorem ca1(x:Nat):(x:Int)+1=((x+1:Nat):Int):=rfl
theorem ca6(x:Nat):(x:Int)+6=((x+6:Nat):Int):=rfl
theorem caN(x y:Nat):(x:Int)+(y:Nat)=((x+y:Nat):Int):=rfl
theorem ch2(a b:Value):(Value.agg #[a,b]).cells.toList=[a,b]:=rfl
abbrev FT:=Nat→Nat→Nat
def wd(k:Nat):Nat:=if k=1 then 12 else if k=4 then 6 else 1
def bC(F:FT):Tab:=⟨fun i s=>F 1 (i*12+s),F 2,F 3,fun i t=>F 4 (i*6+t),F 5,F 6⟩
structure PlanAt (H:Heap)(B:Nat)(pv:Value)(p:List UInt8)(F:FT):Prop where
 g7:H.get (B+7)=some [pv,.slice (some ⟨B+1,0,none⟩) (p.length+1) (p.length+1),.slice (some ⟨B+2,0,none⟩) (p.length+1) (p.length+1),.slice (some ⟨B+3,0,none⟩) (p.length+1) (p.length+1),.slice (some ⟨B+4,0,none⟩) (p.length+1) (p.length+1),.slice (some ⟨B+5,0,none⟩) (p.length+1) (p.length+1),.slice (some ⟨B+6,0,none⟩) (p.length+1) (p.length+1),.map (some B)]
 gk:∀k,1≤k→k≤6→H.get (B+k)=some (dB ((p.length+1)*wd k) (F k))
 pay:Sl bZ H pv p
section
variable {H:Heap}{B:Nat}{pv:Value}{p:List UInt8}{F:FT}(h:PlanAt H B pv p F)
include h
theorem PlanAt.g1:H.get (B+1)=some (dB ((p.length+1)*12) (F 1)):=h.gk 1 (by decide) (by decide)
theorem PlanAt.g2:H.get (B+2)=some (dB (p.length+1) (F 2)):=by have:=h.gk 2 (by decide) (by decide);simpa[wd]using this
theorem PlanAt.g3:H.get (B+3)=some (dB (p.length+1) (F 3)):=by have:=h.gk 3 (by decide) (by decide);simpa[wd]using this
theorem PlanAt.g4:H.get (B+4)=some (dB ((p.length+1)*6) (F 4)):=h.gk 4 (by decide) (by decide)
theorem PlanAt.g5:H.get (B+5)=some (dB (p.length+1) (F 5)):=by have:=h.gk 5 (by decide) (by decide);simpa[wd]using this
theorem PlanAt.g6:H.get (B+6)=some (dB (p.length+1) (F 6)):=by have:=h.gk 6 (by decide) (by decide);simpa[wd]using this
end
theorem PlanAt.ext{H H':Heap}{B:Nat}{pv:Value}{p:List UInt8}{F:FT}(h:PlanAt H B pv p F)(hx:Ext H H'):PlanAt H' B pv p F:=
 ⟨hx.get h.g7,fun k h1 h2=>hx.get (h.gk k h1 h2),h.pay.mono hx⟩
set_option linter.defProp false in
def wG:=And.intro @Int.cast_ofNat_Int (And.intro @ite_self.{1} (And.intro @fB (And.intro @cE (And.intro @cU (And.intro @mN (And.intro @ca1 (And.intro @ca6 (And.intro @caN @ch2))))))))
theorem nR{P:Prop}(h:P:=by simp(disch:=first|omega|(simp only[aD];omega))only[evB,wG,Nat.reduceAdd,Nat.reduceMul,Nat.reduceBEq,Int.reduceToNat, *];rfl):P:=h
theorem fg{cp:FuncId→Option CF}{lo:Nat}{l:List (Nat×E)}{chk:List E}{Q:aX}{S:List Value}{H:Heap}{vs:List (Nat×Value)}{S':List Value}(k:Q .normal S' H)(h:evSets S H l=some vs:=by exact nR)(hc:evChk S H chk=true:=by simp(disch:=first|omega|(simp only[aD];omega))only[evB,wG,Nat.reduceAdd,Nat.reduceMul,Nat.reduceBEq,Int.reduceToNat, *])(hS:setAll S vs=S':=by exact nR):wpS cp lo (.sets l chk) Q S H:=eF h hc hS k
theorem wi{cp:FuncId→Option CF}{lo:Nat}{l:List (Nat×E)}{chk:List E}{Q:aX}{S:List Value}{H:Heap}{vs:List (Nat×Value)}{dst:Option Nat}{o:HOp}{a:E}{xs:List Value}(k:wpH cp lo o xs H fun v H'=>Q .normal (setD (setAll S vs) dst v) H')(h:evSets S H l=some vs:=by exact nR)(hc:evChk S H chk=true:=by simp(disch:=first|omega|(simp only[aD];omega))only[evB,wG,Nat.reduceAdd,Nat.reduceMul,Nat.reduceBEq,Int.reduceToNat, *])(ha:ev S H a=some xs:=by exact nR):wpS cp lo (.hv l chk [] dst o a) Q S H:=gG h hc ha k
theorem fb{cp:FuncId→Option CF}{lo:Nat}{l:List (Nat×E)}{chk:List E}{Q:aX}{S:List Value}{H:Heap}{vs:List (Nat×Value)}{dst:Option Nat}{o:HOp}{a:E}{xs:List Value}{S':List Value}{H':Heap}{v:Value}(hcall:o.isCall=false)(k:Q .normal S' H')(h:evSets S H l=some vs:=by exact nR)(hc:evChk S H chk=true:=by simp(disch:=first|omega|(simp only[aD];omega))only[evB,wG,Nat.reduceAdd,Nat.reduceMul,Nat.reduceBEq,Int.reduceToNat, *])(ha:ev S H a=some xs:=by exact nR)(ho:aR lo o xs H=some (v,H'):=by exact nR)(hS:setD (setAll S vs) dst v=S':=by exact nR):wpS cp lo (.hv l chk [] dst o a) Q S H:=eV hcall h hc ha ho hS k
theorem pH{cp:FuncId→Option CF}{lo:Nat}{c:E}{a b:Stm}{Q:aX}{S:List Value}{H:Heap}{t:Bool}(k1:t=true→wpS cp lo a Q S H)(k2:t=false→wpS cp lo b Q S H)(h:ev1 S H c=some (.bool t):=by exact nR):wpS cp lo (.cond c a b) Q S H:=aF h k1 k2
theorem qQ{cf:CF}{R:Value→Heap→Prop}{S:List Value}{H:Heap}{vs:List Value}(k:R (aP vs) H)(h:evList S H cf.res=some vs:=by exact nR):aS cf R .ret S H:=eM h k
theorem AQ{lo:Nat}{H:Heap}{m s:Nat}(hlo:lo≤H.length)(h1:m<4)(h2:s<3) :
  Ev cp lo 90 [stV m s] H (fun r H'=>Ext H H'∧r=.int .i64 ((3*m+s:Nat):Int)):=by
 unfold stV;refine JW ?_;unfold Ea zE;simp only[kB,aA];repeat' ((first|refine fg ?_|refine fb rfl ?_);(try simp only[aA]))
 refine qQ ?_;exact⟨Ext.app _ _,by simp only[aP];congr 1⟩
theorem yx{lo:Nat}{H:Heap}{a:Nat}(hlo:lo≤H.length)(h1:a<12) :
  Ev cp lo 89 [.int .i64 (a:Nat)] H (fun r H'=>Ext H H'∧r=stV (a/3) (a%3)):=by
 have e1:(a:Int).tdiv 3=((a/3:Nat):Int):=rfl;have e2:(a:Int).tmod 3=((a%3:Nat):Int):=rfl;unfold stV;refine LO ?_;unfold ED zG;simp only[kB,aA];repeat' ((first|refine fg ?_|refine fb rfl ?_);(try simp only[aA]))
 refine qQ ?_;exact⟨Ext.app _ _,rfl⟩
def ux(p:List UInt8)(m s v i:Nat):Value:=match tkS p (m,s) v i with
 | some (t,k)=>.tuple #[stV t.1 t.2,.int .i64 (k:Nat),.bool true]
 | none=>.tuple #[stV m s,.int .i64 0,.bool false]
theorem Br{lo:Nat}{H:Heap}{B:Nat}{pv:Value}{p:List UInt8}{F:FT}{m s v i:Nat}(hlo:lo≤H.length)(hP:PlanAt H B pv p F)(h1:m<4)(h2:s<3)(h3:v<30)(hp:p.length≤4096)(hi:i≤5000) :
  Ev cp lo 88 [.pointer (some ⟨B+7,0,none⟩),stV m s,.int .i64 (v:Nat),.int .i64 (i:Nat)] H (fun r H'=>Ext H H'∧r=ux p m s v i):=by
 have g7:=hP.g7;obtain⟨ad,c0,rfl⟩:=hP.pay.len;have hpay:=hP.pay;have hb7:=Heap.get_lt g7;have es:stV m s=.agg #[.int .i64 (m:Nat),.int .i64 (s:Nat)]:=rfl;rw[es];unfold ux tkS;rw[←tG h1 h2 h3];refine Ih ?_;unfold CW yd;simp only[kB,aA];repeat' ((first|refine fg ?_|refine fb rfl ?_);(try simp only[aA]))
 have hxG:Ext H (H++[some [Value.int .i64 (m:Nat),.int .i64 (s:Nat)],some [.int .i64 0,.int .i64 0]]):=Ext.app _ _;have hg1:Heap.get (H++[some [Value.int .i64 (m:Nat),.int .i64 (s:Nat)],some [.int .i64 0,.int .i64 0]]) H.length=some [.int .i64 (m:Nat),.int .i64 (s:Nat)]:=aH;have hg2:Heap.get (H++[some [Value.int .i64 (m:Nat),.int .i64 (s:Nat)],some [.int .i64 0,.int .i64 0]]) (H.length+1)=some [.int .i64 0,.int .i64 0]:=by rw[dH];rfl
 have hlG:(H++[some [Value.int .i64 (m:Nat),.int .i64 (s:Nat)],some [.int .i64 0,.int .i64 0]]).length=H.length+2:=by simp
 generalize H++[some [Value.int .i64 (m:Nat),.int .i64 (s:Nat)],some [.int .i64 0,.int .i64 0]]=G at *;refine wi ?_;rw[←es];refine aC (Bz (by omega) h1 h2 h3) ?_;unfold uT;rw[es];rintro r H2 ⟨hx2,rfl⟩;have q1:=hx2.get hg1;have q2:=hx2.get hg2;have q7:=hx2.get (hxG.get g7);have hx:=hxG.trans hx2;have hlen2:=hx2.1;have hpay2:=hpay.mono hx;clear hP hg1 hg2 g7 hpay;cases hr:rdS m s v with
 | none=>
  unfold stV;(try simp only[aA]);repeat' ((first|refine fg ?_|refine fb rfl ?_);(try simp only[aA]))
  refine pH (fun h=>?_) (fun h=>?_)
  ·clear h
   (try simp only[aA]);(repeat' ((first|refine fg ?_|refine fb rfl ?_);(try simp only[aA])));refine qQ ?_;exact⟨(hx.set (by omega)).trans (Ext.app _ _),rfl⟩
  ·simp at h
 | some q=>
 obtain⟨c,x,y⟩:=q;have hok:=nz h1 h2 h3 (by rw[←tG h1 h2 h3];exact hr);clear hr;unfold stV;(try simp only[aA]);repeat' ((first|refine fg ?_|refine fb rfl ?_);(try simp only[aA]))
 have hxK:Ext H2 (H2++[some [Value.int .i64 (x:Nat),Value.int .i64 (y:Nat)]]):=Ext.app _ _;have k1:=hxK.get q1;have k2:=hxK.get q2;have k7:=hxK.get q7;have hpayK:=hpay2.mono hxK;have hxT:=hx.trans hxK;have k3:Heap.get (H2++[some [Value.int .i64 (x:Nat),Value.int .i64 (y:Nat)]]) H2.length=some [.int .i64 (x:Nat),.int .i64 (y:Nat)]:=aH;have hlK:(H2++[some [Value.int .i64 (x:Nat),Value.int .i64 (y:Nat)]]).length=H2.length+1:=by simp
 generalize H2++[some [Value.int .i64 (x:Nat),Value.int .i64 (y:Nat)]]=K at *;clear q1 q2 q7 hpay2 hxK hx hx2;refine pH (fun h=>?_) (fun h=>?_)
 ·simp at h
 clear h;(try simp only[aA]);by_cases hc:c<0
 ·refine pH (fun h=>?_) (fun h=>?_)
  ·clear h
   simp only[if_pos hc];(try simp only[aA]);(repeat' ((first|refine fg ?_|refine fb rfl ?_);(try simp only[aA])));refine qQ ?_;exact⟨hxT.set (by omega),rfl⟩
  ·exfalso;first|cases h|(simp only[decide_eq_false_iff_not]at h;omega)
 ·obtain⟨n,rfl⟩:∃n:Nat,c=n:=⟨c.toNat,by omega⟩
  simp only[if_neg hc];refine pH (fun h=>?_) (fun h=>?_)
  ·exfalso;first|cases h|(simp only[decide_eq_true_eq]at h;omega)
  clear h;(try simp only[aA]);by_cases hil:i<p.length
  ·obtain⟨b0,o0,sp0,cap0,xs0,e0,hg0,hx0,hle0⟩:=hpayK.els 0 (by omega)
   cases e0;have hxa:xs0[o0+i]?=some (.int .u8 ((p.getD i 0).toNat:Nat)):=hx0 i hil;have h255:=(p.getD i 0).toNat_lt;clear hx0;generalize hz:(p.getD i 0).toNat=z at *;refine pH (fun h=>?_) (fun h=>?_)
   ·have e:¬ (i<p.length∧((z:Nat):Int)=(n:Nat)):=by
     simp only[Bool.or_eq_true,decide_eq_true_eq]at h;omega
    clear h;simp only[if_neg e];clear e hz;(try simp only[aA]);(repeat' ((first|refine fg ?_|refine fb rfl ?_);(try simp only[aA])));refine qQ ?_;exact⟨hxT.set (by omega),rfl⟩
   ·have e:i<p.length∧((z:Nat):Int)=(n:Nat):=by
     simp only[Bool.or_eq_false_iff,decide_eq_false_iff_not]at h;omega
    clear h;simp only[if_pos e];clear e hz;(try simp only[aA]);(repeat' ((first|refine fg ?_|refine fb rfl ?_);(try simp only[aA])));refine qQ ?_;exact⟨hxT.set (by omega),rfl⟩
  ·have e:¬ (i<p.length∧((p.getD i 0).toNat:Int)=(n:Nat)):=fun h=>hil h.1
   have hge:decide (((i:Nat):Int)≥((p.length:Nat):Int))=true:=by simp;omega
   simp only[if_neg e];refine aF (t:=true) (by simp(disch:=first|omega|(simp only[aD];omega))only[evB,wG,Nat.reduceAdd,Nat.reduceMul,Nat.reduceBEq,Int.reduceToNat, *];try rfl) (fun h=>?_) (fun h=>by cases h);clear h e;(try simp only[aA]);(repeat' ((first|refine fg ?_|refine fb rfl ?_);(try simp only[aA])));refine qQ ?_;exact⟨hxT.set (by omega),rfl⟩
theorem Ai{p:List UInt8}{i k:Nat}(hk:k≤dgA p i)(h:k<44∧i+k<p.length∧bg (p.getD (i+k) 0)=true):k+1≤dgA p i:=by
 obtain⟨h1,h2,h3⟩:=h;refine za (fun b hb=>?_) (by omega) (by omega);obtain⟨g1,g2,g3⟩:=ql hk;rw[List.take_add_one,List.mem_append]at hb;rcases hb with hb|hb
 ·exact g1 b hb
 ·rw[List.getElem?_drop,List.getElem?_eq_getElem h2]at hb
  rw[List.getD_eq_getElem?_getD,List.getElem?_eq_getElem h2]at h3;simp at hb;rw[hb];simpa using h3
theorem uO{p:List UInt8}{i k:Nat}(h:¬ (k<44∧i+k<p.length∧bg (p.getD (i+k) 0)=true)):dgA p i≤k:=by
 refine Nat.le_of_not_lt fun hlt=>h ?_;have hle:=iM p i;obtain⟨g1,g2,g3⟩:=ql (p:=p) (i:=i) (k:=k+1) hlt;refine⟨by omega,by omega,g1 _ ?_⟩;have h2:i+k<p.length:=by omega
 rw[List.take_add_one,List.mem_append];refine .inr ?_;rw[List.getElem?_drop,List.getElem?_eq_getElem h2,List.getD_eq_getElem?_getD,List.getElem?_eq_getElem h2];simp
theorem mi{lo:Nat}{H:Heap}{B:Nat}{pv:Value}{p:List UInt8}{F:FT}{i:Nat}(hlo:lo≤H.length)(hP:PlanAt H B pv p F)(hp:p.length≤4096)(hi:i≤p.length) :
  Ev cp lo 70 [.pointer (some ⟨B+7,0,none⟩),.int .i64 (i:Nat)] H (fun r H'=>H'=H∧r=.int .i64 ((dgA p i:Nat):Int)):=by
 have g7:=hP.g7;obtain⟨ad,c0,rfl⟩:=hP.pay.len;have hpay:=hP.pay;refine J1 ?_;unfold C6 zy;simp only[kB,aA];repeat' ((first|refine fg ?_|refine fb rfl ?_);(try simp only[aA]))
 refine ny (fun S H'=>H=H'∧∃k,k≤dgA p i∧dgA p i≤k∧∃(z:Nat→Value),S=[.pointer (some ⟨B+7,0,none⟩),.int .i64 (i:Nat),z 2,.int .i64 (k:Nat)]) ?_ ?_
 ·refine bk (fun m S H'=>H=H'∧∃k,m+k=44∧k≤dgA p i∧∃(z:Nat→Value),S=[.pointer (some ⟨B+7,0,none⟩),.int .i64 (i:Nat),z 2,.int .i64 (k:Nat)]) 44 ?_ ?_
  ·exact⟨rfl,0,by omega,by omega,aE rfl⟩
  rintro m S H' ⟨rfl,k,hm,hk,z,rfl⟩;by_cases hil:i+k<p.length
  ·obtain⟨b0,o0,sp0,cap0,xs0,e0,hg0,hx0,hle0⟩:=hpay.els 0 (by omega)
   cases e0;have hxa:xs0[o0+(i+k)]?=some (.int .u8 ((p.getD (i+k) 0).toNat:Nat)):=hx0 (i+k) hil;have h255:=(p.getD (i+k) 0).toNat_lt;have hdg:bg (p.getD (i+k) 0)=(decide (48≤(p.getD (i+k) 0).toNat)&&decide ((p.getD (i+k) 0).toNat≤57)):=rfl;have hn:=@Ai p i k hk;have hs:=@uO p i k;rw[hdg]at hn hs;clear hx0 hdg;generalize (p.getD (i+k) 0).toNat=z at *;have hn:False∨_:=.inr hn;have hs:False∨_:=.inr hs;(try simp only[aA]);refine pH (fun h=>?_) (fun h=>?_)
   ·have e:k<44∧i+k<p.length∧(decide (48≤z)&&decide (z≤57))=true:=by
     simp only[Bool.and_eq_true,decide_eq_true_eq]at h ⊢;omega
    clear h;have hk2:=hn.resolve_left id e;clear e hs hn;(try simp only[aA]);(repeat' ((first|refine fg ?_|refine fb rfl ?_);(try simp only[aA])));simp only[dP];exact⟨m-1,by omega,by trivial,k+1,by omega,hk2,aE rfl⟩
   ·have e:¬ (k<44∧i+k<p.length∧(decide (48≤z)&&decide (z≤57))=true):=by
     simp only[Bool.and_eq_false_iff,Bool.and_eq_true,decide_eq_false_iff_not,decide_eq_true_eq]at h ⊢;omega
    clear h;have hk2:=hs.resolve_left id e;clear e hs hn;(try simp only[aA]);exact⟨by trivial,k,hk,hk2,aE rfl⟩
  ·have hk2:dgA p i≤k:=uO fun h=>hil h.2.1
   have hirr:(decide (((k:Nat):Int)<44)&&decide (((i+k:Nat):Int)<((p.length:Nat):Int)))=false:=by
    simp;omega
   (try simp only[aA]);refine aF (t:=false) (by simp(disch:=first|omega|(simp only[aD];omega))only[evB,wG,Nat.reduceAdd,Nat.reduceMul,Nat.reduceBEq,Int.reduceToNat, *];try rfl) (fun h=>by cases h) (fun h=>?_);clear h;(try simp only[aA]);exact⟨by trivial,k,hk,hk2,aE rfl⟩
 ·rintro S H' ⟨rfl,k,hk,hk2,z,rfl⟩
  have e:dgA p i=k:=by omega
  rw[e];clear e hk hk2;(try simp only[aA]);repeat' ((first|refine fg ?_|refine fb rfl ?_);(try simp only[aA]))
  refine qQ ?_;exact⟨rfl,rfl⟩
def cO{α:Type}(enc:α→List Value)(l:List α):List Value:=l.flatMap enc
theorem cX{α:Type}{enc:α→List Value}{w:Nat}(h:∀a,(enc a).length=w)(l:List α):(cO enc l).length=l.length*w:=by
 induction l with
 | nil=>simp[cO]
 | cons a l ih=>
  unfold cO at ih ⊢;rw[List.flatMap_cons,List.length_append,ih,h,List.length_cons,Nat.succ_mul,Nat.add_comm]
theorem lX{α:Type}{enc:α→List Value}{w:Nat}(h:∀a,(enc a).length=w):∀{l:List α} {i:Nat} (hi:i<l.length),((cO enc l).drop (i*w)).take w=enc l[i]
 | a::l,0,hi=>by
  unfold cO;rw[List.flatMap_cons,Nat.zero_mul,List.drop_zero,←h a,List.take_left];rfl
 | a::l,i+1,hi=>by
  have hi2:i<l.length:=by simpa using hi
  have:=lX h hi2;unfold cO at this ⊢;rw[List.flatMap_cons,Nat.succ_mul,Nat.add_comm (i*w) w,←List.drop_drop,←h a,List.drop_left,h a];exact this
theorem iy{α:Type}{enc:α→List Value}(l m:List α):cO enc (l++m)=cO enc l++cO enc m:=by simp[cO]
theorem zQ{cp:FuncId→Option CF}{H0:Heap}{lo w:Nat}{H:Heap}{bo:Nat}{ov:Value}{cells c:List Value}{z:List Value}{R:Value→Heap→Prop}(hw:0<w)(hc:c.length=w)(h1:oneCells c=true)(hlo:lo≤H.length)(hx:Ext H0 H)(hbo:H0.length≤bo)(ho:Own lo w H ov bo cells)(hout:cells.length≤4000000000)
  (k:∀v H4,Ext H0 H4→H.length+2≤H4.length→(∀q d,H.get q=some d→q≠bo→H4.get q=some d)→Own lo w H4 v (H.length+1) (cells++c)→R v H4) :
  wpH cp lo (.app w z) [ov,.slice (some ⟨H.length,0,none⟩) 1 1] (H++[some c]) R:=by
 have hxm:=Ext.app H [some c];have hgm:=aQ H c;have hlm:(H++[some c]).length=H.length+1:=by simp
 refine eG (c:=c) (c':=c) (ho.mono hxm) (by omega) hw (by decide) (by omega) hgm (by omega) (by rw[List.drop_zero,List.take_of_length_le (by omega)]) h1 ?_;intro ov' H4 ho4 hk4 hl4;have ho5:Own lo w H4 ov' (H.length+1) (cells++c):=by rw[hlm]at ho4;exact ho4
 exact k ov' H4 (hk4.ext (hx.trans hxm) hbo) (by omega) (fun q d hq hne=>hk4.get (hxm.get hq) hne) ho5
def eL(x:Nat×Nat×Nat):List Value:=[.int .i64 (x.1:Nat),.int .i64 (x.2.1:Nat),.int .i64 (x.2.2:Nat)]
theorem fH(x:Nat×Nat×Nat):(eL x).length=3:=rfl
def SlR{α:Type}(A w:Nat)(enc:α→List Value)(H:Heap)(v:Value)(l:List α):Prop:=l.length≤30000000∧(v=.slice none 0 0∧l=[]∨∃b sp,A≤b∧v=.slice (some ⟨b,0,sp⟩) l.length l.length∧(sp=none∨sp=some w)∧H.get b=some (cO enc l))
theorem SlR.mono{α:Type}{A w:Nat}{enc:α→List Value}{H H':Heap}{v:Value}{l:List α}(h:SlR A w enc H v l)(hx:Ext H H'):SlR A w enc H' v l:=by
 obtain⟨h1,h2|⟨b,sp,h0,h3,h4,h5⟩⟩:=h
 ·exact⟨h1,.inl h2⟩
 ·exact⟨h1,.inr ⟨b,sp,h0,h3,h4,hx.get h5⟩⟩
theorem SlR.ofOwn{α:Type}{A w lo:Nat}{enc:α→List Value}{H:Heap}{v:Value}{b:Nat}{l:List α}(hw:0<w)(he:∀a,(enc a).length=w)(hl:l.length≤30000000)(hA:A≤b)(h:Own lo w H v b (cO enc l)):SlR A w enc H v l:=by
 refine⟨hl,?_⟩;obtain⟨-,⟨rfl,h2⟩|⟨n,h3,h4,rfl,h6⟩⟩:=h
 ·refine .inl ⟨rfl,?_⟩
  cases l with
  | nil=>rfl
  | cons a l=>
   have:=congrArg List.length h2;rw[cX he,List.length_cons,Nat.succ_mul]at this;simp at this;omega
 ·rw[cX he]at h4
  have:n=l.length:=Nat.eq_of_mul_eq_mul_right hw h4;subst this;exact .inr ⟨b,some w,hA,rfl,.inr rfl,h6⟩
theorem oc(p:List UInt8)(i a u:Nat):(lp p i a u).length≤30:=by
 unfold lp;split
 ·simp
 ·have:∀(l:List Nat) (s:Nat×Nat) (k:Nat),(l.flatMap (jl p i u s k)).length≤l.length:=by
   intro l s k
   induction l with
   | nil=>simp
   | cons x l ih=>
    rw[List.flatMap_cons,List.length_append,List.length_cons];have:(jl p i u s k x).length≤1:=by unfold jl;split<;>simp
    omega
  have:=this (List.range 30);simpa using this _ _
theorem ki{α:Type}(f:Nat→List α)(n:Nat):(List.range (n+1)).flatMap f=(List.range n).flatMap f++f n:=by
 rw[List.range_succ,List.flatMap_append];simp
theorem je{α:Type}{f:Nat→List α}{c:Nat}(h:∀i,(f i).length≤c):∀n,((List.range n).flatMap f).length≤n*c
 | 0=>by simp
 | n+1=>by
  rw[ki,List.length_append,Nat.succ_mul];have:=je h n;have:=h n;omega
theorem CA{lo:Nat}{H:Heap}{B:Nat}{pv:Value}{p:List UInt8}{F:FT}{i a:Nat}(hlo:lo≤H.length)(hP:PlanAt H B pv p F)(hp:p.length≤4096)(hi:i≤p.length)(ha:a<12) :
  Ev cp lo 71 [.pointer (some ⟨B+7,0,none⟩),.int .i64 (i:Nat),.int .i64 (a:Nat)] H (fun r H'=>Ext H H'∧SlR H.length 3 eL H' r (bq p i a)):=by
 have hb7:=Heap.get_lt hP.g7;refine Iv ?_;unfold CN yt;simp only[kB,aA];repeat' ((first|refine fg ?_|refine fb rfl ?_);(try simp only[aA]))
 refine ai (fun u S H'=>Ext H H'∧∃w b',H.length≤b'∧Own lo 3 H' w b' (cO eL ((List.range u).flatMap (lp p i a)))∧∃(z:Nat→Value),S=[.pointer (some ⟨B+7,0,none⟩),.int .i64 (i:Nat),.int .i64 (a:Nat),z 3,w,z 5,z 6,z 7,z 8,z 9,z 10,z 11,z 12,.int .i64 (u:Nat),z 14,z 15,z 16,z 17,z 18,z 19,z 20,z 21,z 22,z 23,z 24,z 25,z 26,z 27,z 28,z 29,z 30]) 30 ?_ ?_ ?_ ?_
 ·exact⟨Ext.refl _,_,H.length,Nat.le_refl _,Own.nil hlo,aE rfl⟩
 ·rintro u S H' hu ⟨hx,w,b',hb',ho,z,rfl⟩
  exact⟨_,nR,by simp;omega⟩
 ·rintro u S H' hu ⟨hx,w,b',hb',ho,z,rfl⟩
  have hx1:=hx.1;have hfl:=je (oc p i a) u;rw[ki,iy];(try simp only[aA]);repeat' ((first|refine fg ?_|refine fb rfl ?_);(try simp only[aA]))
  refine wi ?_;refine aC (yx (by omega) ha) ?_;rintro r H2 ⟨hx2,rfl⟩;have hx21:=hx2.1;(try simp only[aA]);refine wi ?_;refine aC (Br (by omega) (hP.ext (hx.trans hx2)) (by omega) (by omega) hu hp (by omega)) ?_;rintro r H3 ⟨hx3,rfl⟩;have hx31:=hx3.1;unfold ux;cases htk:tkS p (a/3,a%3) u i with
  | none=>
   have hau:lp p i a u=[]:=by unfold lp;rw[htk]
   rw[hau,show cO eL []=[] from rfl,List.append_nil];clear hau htk;unfold stV;(try simp only[aA]);(repeat' ((first|refine fg ?_|refine fb rfl ?_);(try simp only[aA])));refine pH (fun h=>?_) (fun h=>?_)
   ·clear h
    (try simp only[aA]);(repeat' ((first|refine fg ?_|refine fb rfl ?_);(try simp only[aA])));exact⟨(((hx.trans hx2).trans hx3).trans (Ext.app _ _)),w,b',hb',((ho.mono hx2).mono hx3).mono (Ext.app _ _),aE rfl⟩
   ·simp at h
  | some q=>
   obtain⟨s,k⟩:=q;obtain⟨t1,t2,hk1,hki,-⟩:=oi htk (show a/3<4 by omega) (show a%3<3 by omega) hu;have hau:lp p i a u=(List.range 30).flatMap (jl p i u s k):=by unfold lp;rw[htk]
   rw[hau];clear hau htk;obtain⟨b',ho,hb',hbq⟩:=qU (((ho.mono hx2).mono hx3)) hb' (n:=H3.length+1) (by omega) (by omega);have hxt:=(hx.trans hx2).trans hx3;unfold stV;(try simp only[aA]);(repeat' ((first|refine fg ?_|refine fb rfl ?_);(try simp only[aA])));have hxK:Ext H3 (H3++[some [Value.int .i64 (s.1:Nat),Value.int .i64 (s.2:Nat)]]):=Ext.app _ _;have k3:Heap.get (H3++[some [Value.int .i64 (s.1:Nat),Value.int .i64 (s.2:Nat)]]) H3.length=some [.int .i64 (s.1:Nat),.int .i64 (s.2:Nat)]:=aH;have hlK:(H3++[some [Value.int .i64 (s.1:Nat),Value.int .i64 (s.2:Nat)]]).length=H3.length+1:=by simp
   have hoK:=ho.mono hxK;have hxT:=hxt.trans hxK;generalize H3++[some [Value.int .i64 (s.1:Nat),Value.int .i64 (s.2:Nat)]]=K at *;clear ho hxt hxK hx hx2 hx3;refine pH (fun h=>?_) (fun h=>?_)
   ·simp at h
   clear h;(try simp only[aA]);(repeat' ((first|refine fg ?_|refine fb rfl ?_);(try simp only[aA])));refine ai (fun v S H'=>Ext H H'∧H3.length<H'.length∧∃w b',H.length≤b'∧b'≠H3.length∧Heap.get H' H3.length=some [.int .i64 (s.1:Nat),.int .i64 (s.2:Nat)]∧Own lo 3 H' w b' (cO eL ((List.range u).flatMap (lp p i a))++cO eL ((List.range v).flatMap (jl p i u s k)))∧∃(z:Nat→Value),S=[.pointer (some ⟨B+7,0,none⟩),.int .i64 (i:Nat),.int .i64 (a:Nat),z 3,w,.int .i64 (u:Nat),.pointer (some ⟨H3.length,0,none⟩),.int .i64 (k:Nat),z 8,z 9,z 10,z 11,z 12,.int .i64 (u:Nat),z 14,z 15,z 16,z 17,z 18,z 19,.int .i64 (v:Nat),z 21,z 22,z 23,z 24,z 25,z 26,z 27,z 28,z 29,z 30]) 30 ?_ ?_ ?_ ?_
   ·exact⟨hxT,by omega,w,b',hb',by omega,k3,by simpa[cO]using hoK,aE rfl⟩
   ·rintro v S H' hv ⟨hx,hl3,w,b',hb',hne,hg3,ho,z,rfl⟩
    exact⟨_,nR,by simp;omega⟩
   ·rintro v S H' hv ⟨hx,hl3,w,b',hb',hne,hg3,ho,z,rfl⟩
    have hx1:=hx.1;have hfv:((List.range v).flatMap (jl p i u s k)).length≤v*1:=je (fun x=>by unfold jl;split<;>simp) v;rw[ki,iy,←List.append_assoc];have hcl:(cO eL ((List.range u).flatMap (lp p i a))++cO eL ((List.range v).flatMap (jl p i u s k))).length≤4000000000:=by
     rw[List.length_append,cX fH,cX fH];omega
    (try simp only[aA]);(repeat' ((first|refine fg ?_|refine fb rfl ?_);(try simp only[aA])));refine wi ?_;refine aC (Br (by omega) (hP.ext hx) t1 t2 hv hp (by omega)) ?_;rintro r H4 ⟨hx4,rfl⟩;have hx41:=hx4.1;have hg4:=hx4.get hg3;have ho4:=ho.mono hx4;have hxx:=hx.trans hx4;unfold ux;cases htk:tkS p (s.1,s.2) v (i+k)with
    | none=>
     have hav:jl p i u s k v=[]:=by unfold jl;rw[htk]
     rw[hav,show cO eL []=[] from rfl,List.append_nil];clear hav htk ho hx4 hx hg3;unfold stV;(try simp only[aA]);(repeat' ((first|refine fg ?_|refine fb rfl ?_);(try simp only[aA])));refine pH (fun h=>?_) (fun h=>?_)
     ·simp at h
     clear h;(try simp only[aA]);(repeat' ((first|refine fg ?_|refine fb rfl ?_);(try simp only[aA])));exact⟨hxx.trans (Ext.app _ _),by simp;omega,w,b',hb',hne,(Ext.app _ _).get hg4,ho4.mono (Ext.app _ _),aE rfl⟩
    | some q=>
     obtain⟨t,m⟩:=q;obtain⟨v1,v2,hm1,hmi,-⟩:=oi htk t1 t2 hv;have hav:jl p i u s k v=[(30*u+v,k+m,3*t.1+t.2)]:=by unfold jl;rw[htk]
     rw[hav,show cO eL [(30*u+v,k+m,3*t.1+t.2)]=eL (30*u+v,k+m,3*t.1+t.2) from rfl];clear hav htk ho hx4 hx hg3;have e30:(30:Int)*(u:Nat)+(v:Nat)=((30*u+v:Nat):Int):=rfl;unfold stV;(try simp only[aA]);(repeat' ((first|refine fg ?_|refine fb rfl ?_);(try simp only[aA])));have hxL:Ext H4 (H4++[some [Value.int .i64 (t.1:Nat),Value.int .i64 (t.2:Nat)]]):=Ext.app _ _;have gL:Heap.get (H4++[some [Value.int .i64 (t.1:Nat),Value.int .i64 (t.2:Nat)]]) H4.length=some [.int .i64 (t.1:Nat),.int .i64 (t.2:Nat)]:=aH;have hlL:(H4++[some [Value.int .i64 (t.1:Nat),Value.int .i64 (t.2:Nat)]]).length=H4.length+1:=by simp
     have hg5:=hxL.get hg4;have ho5:=ho4.mono hxL;have hxx5:=hxx.trans hxL;generalize H4++[some [Value.int .i64 (t.1:Nat),Value.int .i64 (t.2:Nat)]]=L at *;clear hg4 ho4 hxx;refine pH (fun h=>?_) (fun h=>?_)
     ·clear h
      (try simp only[aA]);refine wi ?_;refine aC (AQ (by omega) v1 v2) ?_;rintro r H6 ⟨hx6,rfl⟩;have hx61:=hx6.1;have hg6:=hx6.get hg5;have ho6:=ho5.mono hx6;have hxx6:=hxx5.trans hx6;clear hg5 ho5 hxx5 hx6;(try simp only[aA]);(repeat' ((first|refine fg ?_|refine fb rfl ?_);(try simp only[aA])));refine wi ?_;refine zQ (c:=eL (30*u+v,k+m,3*t.1+t.2)) (by decide) rfl rfl (by omega) hxx6 hb' ho6 hcl ?_;intro w7 H7 hx7 hl7 hk7 ho7;have hg7:=hk7 _ _ hg6 (fun e=>hne e.symm);clear ho6;(try simp only[aA]);(repeat' ((first|refine fg ?_|refine fb rfl ?_);(try simp only[aA])));exact⟨hx7,by omega,w7,H6.length+1,by omega,by omega,hg7,ho7,aE rfl⟩
     ·simp at h
   ·rintro S H' ⟨hx,hl3,w,b',hb',hne,hg3,ho,z,rfl⟩
    (try simp only[aA]);(repeat' ((first|refine fg ?_|refine fb rfl ?_);(try simp only[aA])));exact⟨hx,w,b',hb',ho,aE rfl⟩
 ·rintro S H' ⟨hx,w,b',hb',ho,z,rfl⟩
  have hfl:=je (oc p i a) 30;(try simp only[aA]);repeat' ((first|refine fg ?_|refine fb rfl ?_);(try simp only[aA]))
  refine qQ ?_;exact⟨hx,SlR.ofOwn (by decide) fH (Nat.le_trans hfl (by decide)) hb' ho⟩
def dJ(F:FT)(k j v:Nat):FT:=fun k'=>if k'=k then pE (F k) j v else F k'
theorem dL(F:FT)(k j v:Nat):dJ F k j v k j=v:=by simp[dJ,pE]
theorem bm{F:FT}{k j v k' j':Nat}(h:k'≠k):dJ F k j v k' j'=F k' j':=by simp[dJ,h]
theorem ji{F:FT}{k j v k' j':Nat}(h:j'≠j):dJ F k j v k' j'=F k' j':=by
 unfold dJ;split
 ·rename_i e;subst e;simp[pE,h]
 ·rfl
structure PlanOk (H0:Heap)(lo:Nat)(H:Heap)(B:Nat)(pv:Value)(p:List UInt8)(F:FT):Prop where
 at_:PlanAt H B pv p F
 ext:Ext H0 H
 low:H0.length≤B
 lo:lo≤B
 pay:Sl bZ H0 pv p
 big:∀k j,F k j≤2000000000
theorem PlanOk.ex{H0:Heap}{lo:Nat}{H H':Heap}{B:Nat}{pv:Value}{p:List UInt8}{F:FT}(h:PlanOk H0 lo H B pv p F)(hx:Ext H H'):PlanOk H0 lo H' B pv p F:=
 ⟨h.at_.ext hx,h.ext.trans hx,h.low,h.lo,h.pay,h.big⟩
theorem PlanOk.set{H0:Heap}{lo:Nat}{H:Heap}{B:Nat}{pv:Value}{p:List UInt8}{F:FT}(h:PlanOk H0 lo H B pv p F){k j v:Nat}(h1:1≤k)(h6:k≤6)(hv:v≤2000000000) :
  PlanOk H0 lo (H.set (B+k) (some (dB ((p.length+1)*wd k) (pE (F k) j v)))) B pv p (dJ F k j v):=by
 have hb:=Heap.get_lt (h.at_.gk k h1 h6);have hlow:=h.low;have hx:=h.ext.set (i:=B+k) (x:=some (dB ((p.length+1)*wd k) (pE (F k) j v))) (by omega);refine⟨⟨by rw[aM (by omega)];exact h.at_.g7,fun k' g1 g6=>?_,h.pay.mono hx⟩,hx,h.low,h.lo,h.pay,fun k' j'=>?_⟩
 ·by_cases e:k'=k
  ·subst e
   rw[aN hb];simp[dJ]
  ·rw[aM (by omega),h.at_.gk k' g1 g6]
   simp[dJ,e]
 ·by_cases e:k'=k
  ·by_cases e2:j'=j
   ·subst e e2;rw[dL];exact hv
   ·rw[ji e2];exact h.big _ _
  ·rw[bm e];exact h.big _ _
theorem gW{cp:FuncId→Option CF}{H0:Heap}{lo:Nat}{H:Heap}{B:Nat}{pv:Value}{p:List UInt8}{F:FT}(hP:PlanOk H0 lo H B pv p F){k j v:Nat}{l:List (Nat×E)}{chk:List E}{a:E}{Q:aX}{S:List Value}{vs:List (Nat×Value)}
  (h1:1≤k) (h6:k≤6) (hv:v≤2000000000) (hj:j<(p.length+1)*wd k) (h:evSets S H l=some vs) (hc:evChk S H chk=true) (ha:ev S H a=some [.pointer (some ⟨B+k,j,none⟩),.int .i64 ((v:Nat):Int)])
  (kk:∀H',PlanOk H0 lo H' B pv p (dJ F k j v)→H'.length=H.length→(∀b,b≠B+k→H'.get b=H.get b)→Q .normal (setAll S vs) H'):wpS cp lo (.hv l chk [] none (.st 1) a) Q S H:=by
 have hg:=hP.at_.gk k h1 h6;have hlo:=hP.lo;have hst:aR lo (.st 1) [.pointer (some ⟨B+k,j,none⟩),.int .i64 ((v:Nat):Int)] H=some (undef,H.set (B+k) (some (dB ((p.length+1)*wd k) (pE (F k) j v)))):=by
  rw[uK (by omega),hg];simp only[cE,if_pos hj,mN]
 exact eV rfl h hc ha hst rfl (kk _ (hP.set h1 h6 hv) (by simp) fun b hb=>aM (by omega))
def jo(k j:Nat):Thr:=if k=1 then(0,j/12,j%12,0) else if k=4 then(4,j/6,j%6,0) else if k=2 then(2,j,0,0) else if k=3 then(3,j,0,0) else if k=5 then(5,j,0,0) else(6,j,0,0)
def AttK(p:List UInt8)(F:FT)(i:Nat):Prop:=∀k j,1≤k→k≤6→j/wd k=i→(k=4→j%6≠0)→At1 p (jo k j) (F k j)
def SameOff(F F':FT)(i:Nat):Prop:=∀k j,j/wd k≠i→F' k j=F k j
theorem SameOff.refl(F:FT)(i:Nat):SameOff F F i:=fun _ _ _=>rfl
theorem SameOff.trans{F F1 F2:FT}{i:Nat}(h:SameOff F F1 i)(h2:SameOff F1 F2 i):SameOff F F2 i:=fun k j e=>(h2 k j e).trans (h k j e)
theorem SameOff.upd{F F1:FT}{i k j v:Nat}(h:SameOff F F1 i)(hj:j/wd k=i):SameOff F (dJ F1 k j v) i:=fun k' j' e=>by
 by_cases e1:k'=k
 ·subst e1
  rw[ji (fun e2=>e (by rw[e2];exact hj))];exact h _ _ e
 ·rw[bm e1];exact h _ _ e
theorem wd1:wd 1=12:=rfl
theorem wd2:wd 2=1:=rfl
theorem wd3:wd 3=1:=rfl
theorem wd4:wd 4=6:=rfl
theorem wd5:wd 5=1:=rfl
theorem wd6:wd 6=1:=rfl
theorem AttK.att{p:List UInt8}{F:FT}{i:Nat}(h:AttK p F i):AttA p (bC F) i where
 tx:=fun s hs=>by
  have:=h 1 (i*12+s) (by decide) (by decide) (by rw[wd1];omega) (by intro e;cases e);simpa[jo,bC,show(i*12+s)/12=i by omega,show(i*12+s)%12=s by omega]using this
 sx:=by simpa[jo,bC]using h 2 i (by decide) (by decide) (by rw[wd2];omega) (by intro e;cases e)
 nn:=by simpa[jo,bC]using h 3 i (by decide) (by decide) (by rw[wd3];omega) (by intro e;cases e)
 tl:=fun t h1 h5=>by
  have:=h 4 (i*6+t) (by decide) (by decide) (by rw[wd4];omega) (by intro _;omega);simpa[jo,bC,show(i*6+t)/6=i by omega,show(i*6+t)%6=t by omega]using this
 dg:=by simpa[jo,bC]using h 5 i (by decide) (by decide) (by rw[wd5];omega) (by intro e;cases e)
 en:=by simpa[jo,bC]using h 6 i (by decide) (by decide) (by rw[wd6];omega) (by intro e;cases e)
theorem AttK.off{p:List UInt8}{F F':FT}{i at_:Nat}(h:AttK p F i)(hs:SameOff F F' at_)(hne:i≠at_):AttK p F' i:=fun k j h1 h6 hj h4=>by
 rw[hs k j (by omega)];exact h k j h1 h6 hj h4
theorem AttK.upd{p:List UInt8}{F:FT}{i k j v:Nat}(h:AttK p F i)(hv:At1 p (jo k j) v):AttK p (dJ F k j v) i:=fun k' j' h1 h6 hj h4=>by
 by_cases e:k'=k
 ·by_cases e2:j'=j
  ·subst e e2;rw[dL];exact hv
  ·rw[ji e2];exact h k' j' h1 h6 hj h4
 ·rw[bm e];exact h k' j' h1 h6 hj h4
theorem LowA.off{p:List UInt8}{F F':FT}{i at_:Nat}(h:LowA p (bC F) i)(hs:SameOff F F' at_)(hlt:at_<i):LowA p (bC F') i:=by
 have e1:∀i' s,at_<i'→s<12→F' 1 (i'*12+s)=F 1 (i'*12+s):=fun i' s h1 h2=>hs 1 _ (by rw[wd1];omega);have e4:∀i' s,at_<i'→s<6→F' 4 (i'*6+s)=F 4 (i'*6+s):=fun i' s h1 h2=>hs 4 _ (by rw[wd4];omega);have e2:∀i',at_<i'→F' 2 i'=F 2 i':=fun i' h1=>hs 2 _ (by rw[wd2];omega);have e3:∀i',at_<i'→F' 3 i'=F 3 i':=fun i' h1=>hs 3 _ (by rw[wd3];omega);have e5:∀i',at_<i'→F' 5 i'=F 5 i':=fun i' h1=>hs 5 _ (by rw[wd5];omega);have e6:∀i',at_<i'→F' 6 i'=F 6 i':=fun i' h1=>hs 6 _ (by rw[wd6];omega);have ec:mc (bC F') i=mc (bC F) i:=by
  simp only[mc,bC];rw[e1 i 0 hlt (by decide),e2 i hlt,e3 i hlt,e5 i hlt]
 refine⟨fun s hs x hx=>?_,fun hp s hs=>?_,fun s hs=>?_,?_,?_,?_,fun t h1 h5=>?_,fun h6=>?_,fun h6=>?_,fun hp=>?_,fun hp t h1 h5=>?_,fun k h1 hk=>?_,fun hp=>?_⟩
 ·have:=h.ar s hs x hx
  by_cases hle:i≤p.length
  ·obtain⟨u,v,c,d,k,m,y,h1,hu,hv2,h3,h4,h5,h6,h7,h8,h9,h10,h11⟩:=lS hx hs hle
   simp only[bC]at this ⊢;rw[e1 i s hlt hs,e1 _ _ (by omega) h8];exact this
  ·
   have h8:x.2.2<12:=by
    simp only[bq,List.mem_flatMap,List.mem_range]at hx;obtain⟨u,hu,hx⟩:=hx;unfold lp at hx;split at hx
    ·simp at hx
    ·rename_i s1 k1 ee
     obtain⟨s1',s2',-⟩:=oi ee (by omega) (by omega) hu;simp only[List.mem_flatMap,List.mem_range]at hx;obtain⟨v,hv,hx⟩:=hx;unfold jl at hx;split at hx
     ·simp at hx
     ·rename_i t1 m1 ee2
      obtain⟨t1',t2',-⟩:=oi ee2 s1' s2' hv;simp only[List.mem_cons,List.not_mem_nil,or_false]at hx;subst hx;simp only;omega
   simp only[bC]at this ⊢;rw[e1 i s hlt hs,e1 _ _ (by omega) h8];exact this
 ·have:=h.by1 hp s hs
  simp only[bC]at this ⊢;rw[e1 i s hlt hs,e1 (i+1) _ (by omega) (by omega)];exact this
 ·rw[ec]
  have:=h.cm s hs;simp only[bC]at this ⊢;rw[e1 i s hlt hs];exact this
 ·rw[ec]
  have:=h.en;simp only[bC]at this ⊢;rw[e6 i hlt];exact this
 ·have:=h.sx
  simp only[bC]at this ⊢;rw[e2 i hlt,e6 i hlt];exact this
 ·have:=h.dg
  simp only[bC]at this ⊢;rw[e5 i hlt,e6 i hlt];exact this
 ·have:=h.tl t h1 h5
  simp only[bC]at this ⊢;rw[e4 i t hlt (by omega),e6 i hlt];exact this
 ·have:=h.s6 h6
  simp only[bC]at this ⊢;rw[e2 i hlt,e2 (i+6) (by omega)];exact this
 ·have:=h.n6 h6
  simp only[bC]at this ⊢;rw[e3 i hlt,e3 (i+6) (by omega)];exact this
 ·have:=h.n1 hp
  simp only[bC]at this ⊢;rw[e3 i hlt,e4 (i+1) 1 (by omega) (by decide)];exact this
 ·have:=h.t1 hp t h1 h5
  simp only[bC]at this ⊢;rw[e4 i t hlt (by omega),e4 (i+1) (t+1) (by omega) (by omega)];exact this
 ·have:=h.dk k h1 hk
  simp only[bC,gg]at this ⊢;rw[e5 i hlt,e5 (i+k) (by omega),e6 (i+k) (by omega)];exact this
 ·have:=h.e0 hp
  simp only[bC]at this ⊢;rw[e6 i hlt];exact⟨this.1,fun s hs=>by rw[e1 i s hlt hs];exact this.2 s hs⟩
structure LowF (p:List UInt8)(F:FT)(i:Nat):Prop where
 s6:i+6≤p.length→F 2 i≤5+F 2 (i+6)
 n6:i+6≤p.length→F 3 i≤5+F 3 (i+6)
 n1:i<p.length→F 3 i≤1+F 4 ((i+1)*6+1)
 t1:i<p.length→∀t,1≤t→t<5→F 4 (i*6+t)≤1+F 4 ((i+1)*6+(t+1))
 dk:∀k,1≤k→k≤dgA p i→F 5 i≤k/3+1+gg (bC F) i k
 e0:i=p.length→F 6 i=0∧∀s,s<12→F 1 (i*12+s)=0
def DecA(F F':FT)(i:Nat):Prop:=∀k j,j/wd k=i→F' k j≤F k j
theorem LowF.dec{p:List UInt8}{F F':FT}{i:Nat}(h:LowF p F i)(hs:SameOff F F' i)(hd:DecA F F' i):LowF p F' i where
 s6:=fun h6=>by
  have:=h.s6 h6;have:=hd 2 i (by rw[wd2];omega);rw[hs 2 (i+6) (by rw[wd2];omega)];omega
 n6:=fun h6=>by
  have:=h.n6 h6;have:=hd 3 i (by rw[wd3];omega);rw[hs 3 (i+6) (by rw[wd3];omega)];omega
 n1:=fun h6=>by
  have:=h.n1 h6;have:=hd 3 i (by rw[wd3];omega);rw[hs 4 ((i+1)*6+1) (by rw[wd4];omega)];omega
 t1:=fun h6 t h1 h5=>by
  have:=h.t1 h6 t h1 h5;have:=hd 4 (i*6+t) (by rw[wd4];omega);rw[hs 4 ((i+1)*6+(t+1)) (by rw[wd4];omega)];omega
 dk:=fun k h1 hk=>by
  have h2:=h.dk k h1 hk;have:=hd 5 i (by rw[wd5];omega);have e:gg (bC F') i k=gg (bC F) i k:=by
   simp only[gg,bC];rw[hs 5 (i+k) (by rw[wd5];omega),hs 6 (i+k) (by rw[wd6];omega)]
  rw[e];omega
 e0:=fun hp=>by
  have h2:=h.e0 hp;have:=hd 6 i (by rw[wd6];omega);refine⟨by omega,fun s hs=>?_⟩;have:=hd 1 (i*12+s) (by rw[wd1];omega);have:=h2.2 s hs;omega
theorem DecA.refl(F:FT)(i:Nat):DecA F F i:=fun _ _ _=>Nat.le_refl _
theorem DecA.trans{F F1 F2:FT}{i:Nat}(h:DecA F F1 i)(h2:DecA F1 F2 i):DecA F F2 i:=fun k j e=>Nat.le_trans (h2 k j e) (h k j e)
theorem DecA.upd{F F1:FT}{i k j v:Nat}(h:DecA F F1 i)(hv:v≤F1 k j):DecA F (dJ F1 k j v) i:=fun k' j' e=>by
 by_cases e1:k'=k
 ·by_cases e2:j'=j
  ·subst e1 e2;rw[dL];exact Nat.le_trans hv (h _ _ e)
  ·rw[ji e2];exact h _ _ e
 ·rw[bm e1];exact h _ _ e
def y6(i:Nat):List (Nat×Nat):=[1,2,3,4,5,6].flatMap fun k=>(List.range (wd k)).map fun r=>(k,i*wd k+r)
def qb(F:FT)(i:Nat):Nat:=((y6 i).map fun e=>F e.1 e.2).sum
theorem Ag{i k j:Nat}(h1:1≤k)(h6:k≤6)(hj:j/wd k=i):(k,j) ∈ y6 i:=by
 simp only[y6,List.mem_flatMap,List.mem_map,List.mem_range];have hw:0<wd k:=by
  unfold wd;split
  ·omega
  ·split<;>omega
 refine⟨k,by simp;omega,j%wd k,Nat.mod_lt _ hw,?_⟩;rw[←hj,Nat.mul_comm];simp only[Prod.mk.injEq,true_and];exact Nat.div_add_mod j (wd k)
theorem vN{i:Nat}{e:Nat×Nat}(h:e ∈ y6 i):e.2/wd e.1=i:=by
 simp only[y6,List.mem_flatMap,List.mem_map,List.mem_range]at h;obtain⟨k,hk,r,hr,rfl⟩:=h;simp only;have hw:0<wd k:=by omega
 rw[Nat.mul_comm,Nat.mul_add_div hw,Nat.div_eq_of_lt hr,Nat.add_zero]
theorem tB{α:Type}{f g:α→Nat}:∀{l:List α},(∀e ∈ l,f e≤g e)→(l.map f).sum≤(l.map g).sum
 | [],_=>by simp
 | a::l,h=>by
  have h1:=h a (by simp);have:=tB (l:=l) (fun e he=>h e (by simp[he]));simp only[List.map_cons,List.sum_cons];omega
theorem yv{α:Type}{f g:α→Nat}:∀{l:List α},(∀e ∈ l,f e≤g e)→(∃e ∈ l,f e<g e)→(l.map f).sum<(l.map g).sum
 | [],_,⟨_,h,_⟩=>by simp at h
 | a::l,h,⟨e,he,hlt⟩=>by
  have h1:=h a (by simp);have h2:=tB (l:=l) (fun e he=>h e (by simp[he]));simp only[List.map_cons,List.sum_cons];rcases List.mem_cons.1 he with rfl|he
  ·omega
  ·have:=yv (l:=l) (fun e he=>h e (by simp[he])) ⟨e,he,hlt⟩
   omega
theorem xG{F:FT}{i k j v:Nat}(h1:1≤k)(h6:k≤6)(hj:j/wd k=i)(hv:v<F k j):qb (dJ F k j v) i<qb F i:=by
 refine yv (fun e he=>?_) ⟨(k,j),Ag h1 h6 hj,by simp only;rw[dL];exact hv⟩;exact(DecA.refl F i).upd (k:=k) (j:=j) (v:=v) (Nat.le_of_lt hv) e.1 e.2 (vN he)
end Go.Proofs.YtgpolmomghejoaaDoor
