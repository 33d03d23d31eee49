/- Lemmas. -/
import Derived.Test.YtgpolmomghejoaaDoorE21
set_option linter.unusedVariables false
set_option linter.unusedSimpArgs false
set_option linter.unusedSectionVars false
namespace Go.Proofs.YtgpolmomghejoaaDoor
open Go.Abs
set_option maxRecDepth 20000
theorem c5(x:Nat):(5:Int)+(x:Nat)=((5+x:Nat):Int):=rfl
theorem c1(x:Nat):(1:Int)+(x:Nat)=((1+x:Nat):Int):=rfl
theorem GY(a b:Nat):(if ((b:Nat):Int)<(a:Nat) then((b:Nat):Int) else(a:Nat))=((min a b:Nat):Int):=by
 split<;>omega
structure InitF (p:List UInt8)(F F':FT)(i:Nat):Prop where
 off:SameOff F F' i
 sx:F' 2 i=if i+6≤p.length then 5+F 2 (i+6) else 1073741824
 tx:∀s,s<12→F' 1 (i*12+s)=if i=p.length then 0 else 1073741824
 en:F' 6 i=if i=p.length then 0 else 1073741824
 n0:F' 3 i=min (if i+6≤p.length then 5+F 3 (i+6) else 1073741824) (if i<p.length then 1+F 4 ((i+1)*6+1) else 1073741824)∨(¬ i<p.length∧F' 3 i=1073741824)
 tl:∀t,1≤t→t≤5→F' 4 (i*6+t)=if t<5∧i<p.length then 1+F 4 ((i+1)*6+(t+1)) else 1073741824
 dl:∀k,1≤k→k≤dgA p i→F' 5 i≤k/3+1+gg (bC F) i k
 du:F' 5 i=1073741824∨∃k,1≤k∧k≤dgA p i∧F' 5 i=k/3+1+gg (bC F) i k
def eY(F:FT)(o:Nat):FT:=fun k j=>if k=1∧o≤j∧j<o+12 then 0 else F k j
theorem GK{m:Nat}{F:FT}{o:Nat}(h:o+12≤m):putCells (dB m (F 1)) o (List.replicate 12 (.int .i64 0))=dB m (eY F o 1):=by
 refine List.ext_getElem? fun k=>?_;unfold putCells;have hl:((dB m (F 1)).take o).length=o:=by rw[List.length_take,cE];omega
 by_cases h1:k<o
 ·rw[List.getElem?_append_left (by omega),List.getElem?_take,if_pos h1,cU (by omega),cU (by omega)]
  simp[eY,show ¬ (o≤k) by omega]
 ·rw[List.getElem?_append_right (by omega),hl]
  by_cases h2:k<o+12
  ·rw[List.getElem?_append_left (by simp;omega),List.getElem?_replicate,if_pos (by omega),cU (by omega)]
   simp[eY,show o≤k by omega,h2]
  ·rw[List.getElem?_append_right (by simp;omega),List.length_replicate,List.getElem?_drop,show o+12+(k-o-12)=k by omega]
   by_cases h3:k<m
   ·rw[cU h3,cU h3]
    simp[eY,h2]
   ·rw[List.getElem?_eq_none (by rw[cE];omega),List.getElem?_eq_none (by rw[cE];omega)]
theorem vS(F:FT)(o s:Nat)(hs:s<12):eY F o 1 (o+s)=0:=by
 unfold eY;rw[if_pos (by omega)]
theorem kC(F:FT)(o:Nat){k j:Nat}(h:k≠1):eY F o k j=F k j:=by
 unfold eY;rw[if_neg (fun e=>h e.1)]
theorem tz{F F1:FT}{i:Nat}(h:SameOff F F1 i):SameOff F (eY F1 (i*12)) i:=fun k j hj=>by
 unfold eY;rw[if_neg (fun e=>hj (by rw[e.1,wd1];omega))];exact h k j hj
theorem vW{H0:Heap}{lo:Nat}{H:Heap}{B:Nat}{pv:Value}{p:List UInt8}{F:FT}(h:PlanOk H0 lo H B pv p F)(o:Nat):PlanOk H0 lo (H.set (B+1) (some (dB ((p.length+1)*12) (eY F o 1)))) B pv p (eY F o):=by
 have hb:=Heap.get_lt (h.at_.gk 1 (by decide) (by decide));have hlow:=h.low;have hx:=h.ext.set (i:=B+1) (x:=some (dB ((p.length+1)*12) (eY F o 1))) (by omega);refine⟨⟨by rw[aM (by omega)];exact h.at_.g7,fun k' g1 g6=>?_,h.pay.mono hx⟩,hx,h.low,h.lo,h.pay,fun k' j'=>?_⟩
 ·by_cases e:k'=1
  ·subst e
   rw[aN hb];rfl
  ·rw[aM (by omega),h.at_.gk k' g1 g6]
   congr 2;funext j;rw[kC F o e]
 ·unfold eY
  split
  ·omega
  ·exact h.big _ _
def KeepB(B:Nat)(H H':Heap):Prop:=H'.length=H.length∧∀b,(b≤B∨B+7≤b)→H'.get b=H.get b
theorem KeepB.refl(B:Nat)(H:Heap):KeepB B H H:=⟨rfl,fun _ _=>rfl⟩
theorem KeepB.step{B k:Nat}{H H1 H2:Heap}(h:KeepB B H H1)(h1:1≤k)(h6:k≤6)(hl:H2.length=H1.length)(hk:∀b,b≠B+k→H2.get b=H1.get b):KeepB B H H2:=
 ⟨hl.trans h.1,fun b hb=>(hk b (by omega)).trans (h.2 b hb)⟩
set_option linter.defProp false in
def dI:=And.intro @Int.cast_ofNat_Int (And.intro @ite_self.{1} (And.intro @fB (And.intro @cE (And.intro @cU (And.intro @ca1 (And.intro @ca6 (And.intro @caN (And.intro @ch2 (And.intro @c5 (And.intro @c1 @GY))))))))))
theorem nm{P:Prop}(h:P:=by simp(disch:=first|omega|(simp only[aD];omega))only[evB,dI,Nat.reduceAdd,Nat.reduceMul,Nat.reduceBEq,Int.reduceToNat, *];rfl):P:=h
theorem nN{cp:FuncId→Option CF}{lo:Nat}{l:List (Nat×E)}{chk:List E}{Q:aX}{S:List Value}{H:Heap}{vs:List (Nat×Value)}{S':List Value}(k:Q .normal S' H)(h:evSets S H l=some vs:=by exact nm)(hc:evChk S H chk=true:=by simp(disch:=first|omega|(simp only[aD];omega))only[evB,dI,Nat.reduceAdd,Nat.reduceMul,Nat.reduceBEq,Int.reduceToNat, *])(hS:setAll S vs=S':=by exact nm):wpS cp lo (.sets l chk) Q S H:=eF h hc hS k
theorem HX{cp:FuncId→Option CF}{lo:Nat}{l:List (Nat×E)}{chk:List E}{Q:aX}{S:List Value}{H:Heap}{vs:List (Nat×Value)}{dst:Option Nat}{o:HOp}{a:E}{xs:List Value}(k:wpH cp lo o xs H fun v H'=>Q .normal (setD (setAll S vs) dst v) H')(h:evSets S H l=some vs:=by exact nm)(hc:evChk S H chk=true:=by simp(disch:=first|omega|(simp only[aD];omega))only[evB,dI,Nat.reduceAdd,Nat.reduceMul,Nat.reduceBEq,Int.reduceToNat, *])(ha:ev S H a=some xs:=by exact nm):wpS cp lo (.hv l chk [] dst o a) Q S H:=gG h hc ha k
theorem nS{cp:FuncId→Option CF}{lo:Nat}{l:List (Nat×E)}{chk:List E}{Q:aX}{S:List Value}{H:Heap}{vs:List (Nat×Value)}{dst:Option Nat}{o:HOp}{a:E}{xs:List Value}{S':List Value}{H':Heap}{v:Value}(hcall:o.isCall=false)(k:Q .normal S' H')(h:evSets S H l=some vs:=by exact nm)(hc:evChk S H chk=true:=by simp(disch:=first|omega|(simp only[aD];omega))only[evB,dI,Nat.reduceAdd,Nat.reduceMul,Nat.reduceBEq,Int.reduceToNat, *])(ha:ev S H a=some xs:=by exact nm)(ho:aR lo o xs H=some (v,H'):=by exact nm)(hS:setD (setAll S vs) dst v=S':=by exact nm):wpS cp lo (.hv l chk [] dst o a) Q S H:=eV hcall h hc ha ho hS k
theorem tC{cp:FuncId→Option CF}{lo:Nat}{c:E}{a b:Stm}{Q:aX}{S:List Value}{H:Heap}{t:Bool}(k1:t=true→wpS cp lo a Q S H)(k2:t=false→wpS cp lo b Q S H)(h:ev1 S H c=some (.bool t):=by exact nm):wpS cp lo (.cond c a b) Q S H:=aF h k1 k2
theorem xg{H0:Heap}{lo:Nat}{H:Heap}{B:Nat}{pv:Value}{p:List UInt8}{F:FT}{i:Nat}(hP:PlanOk H0 lo H B pv p F)(hp:p.length≤4096)(hi:i≤p.length)(hbig:∀k j,1≤k→k≤6→(k=4→j%6≠0)→F k j≤1200000000) :
  Ev cp lo 51 [.pointer (some ⟨B+7,0,none⟩),.int .i64 (i:Nat)] H (fun r H'=>∃F',PlanOk H0 lo H' B pv p F'∧InitF p F F' i∧KeepB B H H'):=by
 have g7:=hP.at_.g7;obtain⟨ad,c0,rfl⟩:=hP.pay.len;have hb7:=Heap.get_lt g7;have hlo:=hP.lo;have e0:wd 1=12∧wd 2=1∧wd 3=1∧wd 4=6∧wd 5=1∧wd 6=1:=⟨rfl,rfl,rfl,rfl,rfl,rfl⟩;obtain⟨w1,w2,w3,w4,w5,w6⟩:=e0;have hfar:(1073741824:Nat)≤2000000000:=by decide
 replace hbig:False∨_:=.inr hbig;refine HL ?_;unfold Cj yq;simp only[kB,aA]
 ((first|refine nN ?_|refine nS rfl ?_);(try simp only[aA]))
 refine gW hP (k:=2) (j:=i) (v:=1073741824) (by decide) (by decide) hfar (by rw[w2];omega) (by simp(disch:=first|omega|(simp only[aD];omega))only[evB,dI,Nat.reduceAdd,Nat.reduceMul,Nat.reduceBEq,Int.reduceToNat, *];try rfl) (by simp(disch:=first|omega|(simp only[aD];omega))only[evB,dI,Nat.reduceAdd,Nat.reduceMul,Nat.reduceBEq,Int.reduceToNat, *]) (by simp(disch:=first|omega|(simp only[aD];omega))only[evB,dI,Nat.reduceAdd,Nat.reduceMul,Nat.reduceBEq,Int.reduceToNat, *];try rfl) fun H1 hP1 hl1 hk1=>?_;have g71:H1.get (B+7)=_:=(hk1 _ (by omega)).trans g7;replace hk1:False∨_:=.inr hk1;clear hP g7;(try simp only[aA]);refine gW hP1 (k:=3) (j:=i) (v:=1073741824) (by decide) (by decide) hfar (by rw[w3];omega) (by simp(disch:=first|omega|(simp only[aD];omega))only[evB,dI,Nat.reduceAdd,Nat.reduceMul,Nat.reduceBEq,Int.reduceToNat, *];try rfl) (by simp(disch:=first|omega|(simp only[aD];omega))only[evB,dI,Nat.reduceAdd,Nat.reduceMul,Nat.reduceBEq,Int.reduceToNat, *]) (by simp(disch:=first|omega|(simp only[aD];omega))only[evB,dI,Nat.reduceAdd,Nat.reduceMul,Nat.reduceBEq,Int.reduceToNat, *];try rfl) fun H2 hP2 hl2 hk2=>?_;have g72:H2.get (B+7)=_:=(hk2 _ (by omega)).trans g71;replace hk2:False∨_:=.inr hk2;clear hP1 g71;(try simp only[aA]);refine gW hP2 (k:=5) (j:=i) (v:=1073741824) (by decide) (by decide) hfar (by rw[w5];omega) (by simp(disch:=first|omega|(simp only[aD];omega))only[evB,dI,Nat.reduceAdd,Nat.reduceMul,Nat.reduceBEq,Int.reduceToNat, *];try rfl) (by simp(disch:=first|omega|(simp only[aD];omega))only[evB,dI,Nat.reduceAdd,Nat.reduceMul,Nat.reduceBEq,Int.reduceToNat, *]) (by simp(disch:=first|omega|(simp only[aD];omega))only[evB,dI,Nat.reduceAdd,Nat.reduceMul,Nat.reduceBEq,Int.reduceToNat, *];try rfl) fun H3 hP3 hl3 hk3=>?_;have g73:H3.get (B+7)=_:=(hk3 _ (by omega)).trans g72;replace hk3:False∨_:=.inr hk3;clear hP2 g72;(try simp only[aA]);refine gW hP3 (k:=6) (j:=i) (v:=1073741824) (by decide) (by decide) hfar (by rw[w6];omega) (by simp(disch:=first|omega|(simp only[aD];omega))only[evB,dI,Nat.reduceAdd,Nat.reduceMul,Nat.reduceBEq,Int.reduceToNat, *];try rfl) (by simp(disch:=first|omega|(simp only[aD];omega))only[evB,dI,Nat.reduceAdd,Nat.reduceMul,Nat.reduceBEq,Int.reduceToNat, *]) (by simp(disch:=first|omega|(simp only[aD];omega))only[evB,dI,Nat.reduceAdd,Nat.reduceMul,Nat.reduceBEq,Int.reduceToNat, *];try rfl) fun H4 hP4 hl4 hk4=>?_;clear hP3;have hk:KeepB B H H4:=((((KeepB.refl B H).step (by decide) (by decide) hl1 (hk1.resolve_left id)).step (by decide) (by decide) hl2 (hk2.resolve_left id)).step (by decide) (by decide) hl3 (hk3.resolve_left id)).step (by decide) (by decide) hl4 hk4;have s4:SameOff F (dJ (dJ (dJ (dJ F 2 i 1073741824) 3 i 1073741824) 5 i 1073741824) 6 i 1073741824) i:=((((SameOff.refl F i).upd (by rw[w2];omega)).upd (by rw[w3];omega)).upd (by rw[w5];omega)).upd (by rw[w6];omega);have f2:dJ (dJ (dJ (dJ F 2 i 1073741824) 3 i 1073741824) 5 i 1073741824) 6 i 1073741824 2 i=1073741824:=by rw[bm (by decide),bm (by decide),bm (by decide),dL]
 have f3:dJ (dJ (dJ (dJ F 2 i 1073741824) 3 i 1073741824) 5 i 1073741824) 6 i 1073741824 3 i=1073741824:=by rw[bm (by decide),bm (by decide),dL]
 have f5:dJ (dJ (dJ (dJ F 2 i 1073741824) 3 i 1073741824) 5 i 1073741824) 6 i 1073741824 5 i=1073741824:=by rw[bm (by decide),dL]
 have f6:dJ (dJ (dJ (dJ F 2 i 1073741824) 3 i 1073741824) 5 i 1073741824) 6 i 1073741824 6 i=1073741824:=by rw[dL]
 generalize dJ (dJ (dJ (dJ F 2 i 1073741824) 3 i 1073741824) 5 i 1073741824) 6 i 1073741824=F4 at *;clear hk1 hk2 hk3 hk4 hl1 hl2 hl3 hl4 g73;(try simp only[aA]);repeat' ((first|refine nN ?_|refine nS rfl ?_);(try simp only[aA]))
 refine ai (fun s S H'=>∃F',PlanOk H0 lo H' B (.slice ad p.length c0) p F'∧SameOff F F' i∧KeepB B H H'∧(∀s',s'<s→F' 1 (i*12+s')=1073741824)∧(∀k j,k≠1→F' k j=F4 k j)∧∃(z:Nat→Value),S=[.pointer (some ⟨B+7,0,none⟩),.int .i64 (i:Nat),.int .i64 (p.length:Nat),z 3,z 4,z 5,z 6,z 7,z 8,z 9,z 10,z 11,z 12,.int .i64 (s:Nat),z 14,z 15]) 12 ?_ ?_ ?_ ?_
 ·exact⟨F4,hP4,s4,hk,fun s' hs'=>by omega,fun _ _ _=>rfl,aE rfl⟩
 ·rintro s S H' hs ⟨F',-,-,-,-,-,z,rfl⟩
  exact⟨_,nm,by simp;omega⟩
 ·rintro s S H' hs ⟨F',hP,hso,hk,hF1,hF2,z,rfl⟩
  have g7:=hP.at_.g7;(try simp only[aA])
  ((first|refine nN ?_|refine nS rfl ?_);(try simp only[aA]))
  refine gW hP (k:=1) (j:=i*12+s) (v:=1073741824) (by decide) (by decide) hfar (by rw[w1];omega) (by simp(disch:=first|omega|(simp only[aD];omega))only[evB,dI,Nat.reduceAdd,Nat.reduceMul,Nat.reduceBEq,Int.reduceToNat, *];try rfl) (by simp(disch:=first|omega|(simp only[aD];omega))only[evB,dI,Nat.reduceAdd,Nat.reduceMul,Nat.reduceBEq,Int.reduceToNat, *]) (by simp(disch:=first|omega|(simp only[aD];omega))only[evB,dI,Nat.reduceAdd,Nat.reduceMul,Nat.reduceBEq,Int.reduceToNat, *];try rfl) fun H1 hP1 hl1 hk1=>?_;have hk:=hk.step (by decide) (by decide) hl1 hk1;replace hF1:False∨_:=.inr hF1;replace hF2:False∨_:=.inr hF2;clear g7 hk1;(try simp only[aA]);repeat' ((first|refine nN ?_|refine nS rfl ?_);(try simp only[aA]))
  refine⟨_,hP1,hso.upd (by rw[w1];omega),hk,fun s' hs'=>?_,fun k j hk=>by rw[bm hk,hF2.resolve_left id k j hk],aE (by first|rfl|(simp only[Int.natCast_add,Int.natCast_one];rfl)|simp only[Int.natCast_add,Int.natCast_one])⟩;by_cases e:s'=s
  ·subst e;rw[dL]
  ·rw[ji (by omega)];exact hF1.resolve_left id s' (by omega)
 ·rintro S H' ⟨F5,hP5,s5,hk5,t1,hF5,z,rfl⟩
  have u2:=(hF5 2 i (by decide)).trans f2;have u3:=(hF5 3 i (by decide)).trans f3;have u5:=(hF5 5 i (by decide)).trans f5;have u6:=(hF5 6 i (by decide)).trans f6;clear hF5 f2 f3 f5 f6 hk s4 hP4;(try simp only[aA]);refine dq (fun S H'=>∃F',PlanOk H0 lo H' B (.slice ad p.length c0) p F'∧SameOff F F' i∧KeepB B H H'∧(∀s',s'<12→F' 1 (i*12+s')=if i=p.length then 0 else 1073741824)∧F' 2 i=1073741824∧F' 3 i=1073741824∧F' 5 i=1073741824∧(F' 6 i=if i=p.length then 0 else 1073741824)∧∃(z:Nat→Value),S=[.pointer (some ⟨B+7,0,none⟩),.int .i64 (i:Nat),.int .i64 (p.length:Nat),z 3,z 4,z 5,z 6,z 7,z 8,z 9,z 10,z 11,z 12,z 13,z 14,z 15]) ?_ ?_
  ·have g7:=hP5.at_.g7
   have g7l:=Heap.get_lt g7;refine tC (fun h=>?_) (fun h=>?_)
   ·have e:i=p.length:=by simp only[decide_eq_true_eq]at h;omega
    clear h;(try simp only[aA]);refine gW hP5 (k:=6) (j:=i) (v:=0) (by decide) (by decide) (by omega) (by rw[w6];omega) (by simp(disch:=first|omega|(simp only[aD];omega))only[evB,dI,Nat.reduceAdd,Nat.reduceMul,Nat.reduceBEq,Int.reduceToNat, *];try rfl) (by simp(disch:=first|omega|(simp only[aD];omega))only[evB,dI,Nat.reduceAdd,Nat.reduceMul,Nat.reduceBEq,Int.reduceToNat, *]) (by simp(disch:=first|omega|(simp only[aD];omega))only[evB,dI,Nat.reduceAdd,Nat.reduceMul,Nat.reduceBEq,Int.reduceToNat, *];try rfl) fun H1 hP1 hl1 hk1=>?_;have g71:H1.get (B+7)=_:=(hk1 _ (by omega)).trans g7;have hk6:=hk5.step (by decide) (by decide) hl1 hk1;have g11:=hP1.at_.gk 1 (by decide) (by decide);have hb1:=Heap.get_lt g11;have hst:aR lo (.st 12) [.pointer (some ⟨B+1,i*12,none⟩),.agg #[.int .i64 0,.int .i64 0,.int .i64 0,.int .i64 0,.int .i64 0,.int .i64 0,.int .i64 0,.int .i64 0,.int .i64 0,.int .i64 0,.int .i64 0,.int .i64 0]] H1=some (undef,H1.set (B+1) (some (dB ((p.length+1)*12) (eY (dJ F5 6 i 0) (i*12) 1)))):=by
     simp only[aR,hsem];rw[if_pos (by exact⟨rfl,rfl⟩)];show Option.map _ (Heap.put lo _ (B+1) (i*12) (List.replicate 12 (Value.int .i64 0)))=_;rw[iY g11 (by omega) (by rw[cE,w1];simp;omega),w1,GK (by omega)];rfl
    have hP8:=vW hP1 (i*12);have hk8:=hk6.step (k:=1) (H2:=H1.set (B+1) (some (dB ((p.length+1)*12) (eY (dJ F5 6 i 0) (i*12) 1)))) (by decide) (by decide) (by simp) (fun b hb=>aM (by omega));clear g7 hk1 t1;(try simp only[aA]);refine eV rfl (by simp(disch:=first|omega|(simp only[aD];omega))only[evB,dI,Nat.reduceAdd,Nat.reduceMul,Nat.reduceBEq,Int.reduceToNat, *];try rfl) (by simp(disch:=first|omega|(simp only[aD];omega))only[evB,dI,Nat.reduceAdd,Nat.reduceMul,Nat.reduceBEq,Int.reduceToNat, *]) (by simp(disch:=first|omega|(simp only[aD];omega))only[evB,dI,Nat.reduceAdd,Nat.reduceMul,Nat.reduceBEq,Int.reduceToNat, *];try rfl) hst (by simp(disch:=first|omega|(simp only[aD];omega))only[evB,dI,Nat.reduceAdd,Nat.reduceMul,Nat.reduceBEq,Int.reduceToNat, *];try rfl) ?_;refine⟨_,hP8,tz (s5.upd (by rw[w6];omega)),hk8,fun s' hs'=>?_,?_,?_,?_,?_,aE (by rw[e];rfl)⟩
    ·rw[if_pos e,vS _ _ _ hs']
    ·rw[kC _ _ (by decide),bm (by decide),u2]
    ·rw[kC _ _ (by decide),bm (by decide),u3]
    ·rw[kC _ _ (by decide),bm (by decide),u5]
    ·rw[kC _ _ (by decide),dL,if_pos e]
   ·have e:¬ i=p.length:=by simp only[decide_eq_false_iff_not]at h;omega
    clear h;(try simp only[aA]);refine⟨F5,hP5,s5,hk5,fun s' hs'=>?_,u2,u3,u5,?_,aE rfl⟩
    ·rw[if_neg e];exact t1 s' hs'
    ·rw[if_neg e];exact u6
  ·rintro S H' ⟨F6,hP6,s6,hk6,t1,u2,u3,u5,u6,z,rfl⟩
   clear hP5 s5 hk5;(try simp only[aA]);refine dq (fun S H'=>∃F',PlanOk H0 lo H' B (.slice ad p.length c0) p F'∧SameOff F F' i∧KeepB B H H'∧(∀s',s'<12→F' 1 (i*12+s')=if i=p.length then 0 else 1073741824)∧(F' 2 i=if i+6≤p.length then 5+F 2 (i+6) else 1073741824)∧(F' 3 i=if i+6≤p.length then 5+F 3 (i+6) else 1073741824)∧F' 5 i=1073741824∧(F' 6 i=if i=p.length then 0 else 1073741824)∧∃(z:Nat→Value),S=[.pointer (some ⟨B+7,0,none⟩),.int .i64 (i:Nat),.int .i64 (p.length:Nat),z 3,z 4,z 5,z 6,z 7,z 8,z 9,z 10,z 11,z 12,z 13,z 14,z 15]) ?_ ?_
   ·have g7:=hP6.at_.g7
    have g2:=hP6.at_.g2;have r2:F6 2 (i+6)=F 2 (i+6):=s6 2 _ (by rw[w2];omega);have r3:F6 3 (i+6)=F 3 (i+6):=s6 3 _ (by rw[w3];omega);have b2:=hbig.resolve_left id 2 (i+6) (by decide) (by decide) (by intro h;cases h);have b3:=hbig.resolve_left id 3 (i+6) (by decide) (by decide) (by intro h;cases h);replace hk6:False∨_:=.inr hk6;replace t1:False∨_:=.inr t1;replace u6:False∨_:=.inr u6;replace s6:False∨_:=.inr s6;clear hbig;refine tC (fun h=>?_) (fun h=>?_)
    ·have e:i+6≤p.length:=by simp only[decide_eq_true_eq]at h;omega
     clear h;(try simp only[aA]);refine gW hP6 (k:=2) (j:=i) (v:=5+F 2 (i+6)) (by decide) (by decide) (by omega) (by rw[w2];omega) (by simp(disch:=first|omega|(simp only[aD];omega))only[evB,dI,Nat.reduceAdd,Nat.reduceMul,Nat.reduceBEq,Int.reduceToNat, *];try rfl) (by simp(disch:=first|omega|(simp only[aD];omega))only[evB,dI,Nat.reduceAdd,Nat.reduceMul,Nat.reduceBEq,Int.reduceToNat, *]) (by simp(disch:=first|omega|(simp only[aD];omega))only[evB,dI,Nat.reduceAdd,Nat.reduceMul,Nat.reduceBEq,Int.reduceToNat, *];try rfl) fun H1 hP1 hl1 hk1=>?_;have g71:H1.get (B+7)=_:=(hk1 _ (by omega)).trans g7;have g31:=hP1.at_.g3;have r31:dJ F6 2 i (5+F 2 (i+6)) 3 (i+6)=F 3 (i+6):=by rw[bm (by decide),r3]
     have hk7:=(hk6.resolve_left id).step (by decide) (by decide) hl1 hk1;clear g7 g2 hk1 hk6;(try simp only[aA]);refine gW hP1 (k:=3) (j:=i) (v:=5+F 3 (i+6)) (by decide) (by decide) (by omega) (by rw[w3];omega) (by simp(disch:=first|omega|(simp only[aD];omega))only[evB,dI,Nat.reduceAdd,Nat.reduceMul,Nat.reduceBEq,Int.reduceToNat, *];try rfl) (by simp(disch:=first|omega|(simp only[aD];omega))only[evB,dI,Nat.reduceAdd,Nat.reduceMul,Nat.reduceBEq,Int.reduceToNat, *]) (by simp(disch:=first|omega|(simp only[aD];omega))only[evB,dI,Nat.reduceAdd,Nat.reduceMul,Nat.reduceBEq,Int.reduceToNat, *];try rfl) fun H2 hP2 hl2 hk2=>?_;have hk8:=hk7.step (by decide) (by decide) hl2 hk2;clear hk2;refine⟨_,hP2,((s6.resolve_left id).upd (by rw[w2];omega)).upd (by rw[w3];omega),hk8,fun s' hs'=>?_,?_,?_,?_,?_,aE rfl⟩
     ·rw[bm (by decide),bm (by decide)];exact t1.resolve_left id s' hs'
     ·rw[bm (by decide),dL,if_pos e]
     ·rw[dL,if_pos e]
     ·rw[bm (by decide),bm (by decide)];exact u5
     ·rw[bm (by decide),bm (by decide)];exact u6.resolve_left id
    ·have e:¬ i+6≤p.length:=by simp only[decide_eq_false_iff_not]at h;omega
     clear h;(try simp only[aA]);exact⟨F6,hP6,s6.resolve_left id,hk6.resolve_left id,t1.resolve_left id,by rw[if_neg e];exact u2,by rw[if_neg e];exact u3,u5,u6.resolve_left id,aE rfl⟩
   clear hP6 s6 hk6 t1 u2 u3 u5 u6;rintro S H' ⟨F6,hP6,s6,hk6,t1,u2,u3,u5,u6,z,rfl⟩;(try simp only[aA]);refine dq (fun S H'=>∃F',PlanOk H0 lo H' B (.slice ad p.length c0) p F'∧SameOff F F' i∧KeepB B H H'∧(∀s',s'<12→F' 1 (i*12+s')=if i=p.length then 0 else 1073741824)∧(F' 2 i=if i+6≤p.length then 5+F 2 (i+6) else 1073741824)∧(F' 3 i=min (if i+6≤p.length then 5+F 3 (i+6) else 1073741824) (if i<p.length then 1+F 4 ((i+1)*6+1) else 1073741824)∨(¬ i<p.length∧F' 3 i=1073741824))∧F' 5 i=1073741824∧(F' 6 i=if i=p.length then 0 else 1073741824)∧∃(z:Nat→Value),S=[.pointer (some ⟨B+7,0,none⟩),.int .i64 (i:Nat),.int .i64 (p.length:Nat),z 3,z 4,z 5,z 6,z 7,z 8,z 9,z 10,z 11,z 12,z 13,z 14,z 15]) ?_ ?_
   ·have g7:=hP6.at_.g7
    have g3:=hP6.at_.g3;have g4:=hP6.at_.g4;have r4:F6 4 ((i+1)*6+1)=F 4 ((i+1)*6+1):=s6 4 _ (by rw[w4];omega);have b4:=hbig.resolve_left id 4 ((i+1)*6+1) (by decide) (by decide) (by intro _;omega);have b3:=hP6.big 3 i;replace hk6:False∨_:=.inr hk6;replace t1:False∨_:=.inr t1;replace u2:False∨_:=.inr u2;replace u3:False∨_:=.inr u3;replace u6:False∨_:=.inr u6;replace s6:False∨_:=.inr s6;clear hbig;refine tC (fun h=>?_) (fun h=>?_)
    ·have e:i<p.length:=by simp only[decide_eq_true_eq]at h;omega
     clear h;(try simp only[aA]);refine gW hP6 (k:=3) (j:=i) (v:=min (F6 3 i) (1+F 4 ((i+1)*6+1))) (by decide) (by decide) (by omega) (by rw[w3];omega) (by simp(disch:=first|omega|(simp only[aD];omega))only[evB,dI,Nat.reduceAdd,Nat.reduceMul,Nat.reduceBEq,Int.reduceToNat, *];try rfl) (by simp(disch:=first|omega|(simp only[aD];omega))only[evB,dI,Nat.reduceAdd,Nat.reduceMul,Nat.reduceBEq,Int.reduceToNat, *]) (by simp(disch:=first|omega|(simp only[aD];omega))only[evB,dI,Nat.reduceAdd,Nat.reduceMul,Nat.reduceBEq,Int.reduceToNat, *];try rfl) fun H1 hP1 hl1 hk1=>?_;have hk7:=(hk6.resolve_left id).step (by decide) (by decide) hl1 hk1;clear hk1;refine⟨_,hP1,(s6.resolve_left id).upd (by rw[w3];omega),hk7,fun s' hs'=>?_,?_,?_,?_,?_,aE rfl⟩
     ·rw[bm (by decide)];exact t1.resolve_left id s' hs'
     ·rw[bm (by decide)];exact u2.resolve_left id
     ·refine .inl ?_
      rw[dL,if_pos e,u3.resolve_left id]
     ·rw[bm (by decide)];exact u5
     ·rw[bm (by decide)];exact u6.resolve_left id
    ·have e:¬ i<p.length:=by simp only[decide_eq_false_iff_not]at h;omega
     clear h;(try simp only[aA]);refine⟨F6,hP6,s6.resolve_left id,hk6.resolve_left id,t1.resolve_left id,u2.resolve_left id,.inr ⟨e,?_⟩,u5,u6.resolve_left id,aE rfl⟩;rw[u3.resolve_left id,if_neg (by omega)]
   clear hP6 s6 hk6 t1 u2 u3 u5 u6;rintro S H' ⟨F7,hP7,s7,hk7,t1,u2,u3,u5,u6,z,rfl⟩;(try simp only[aA]);(repeat' ((first|refine nN ?_|refine nS rfl ?_);(try simp only[aA])));refine ai (fun k S H'=>∃F',PlanOk H0 lo H' B (.slice ad p.length c0) p F'∧SameOff F F' i∧KeepB B H H'∧(∀t,1≤t→t≤k→F' 4 (i*6+t)=if t<5∧i<p.length then 1+F 4 ((i+1)*6+(t+1)) else 1073741824)∧(∀k' j,k'≠4→F' k' j=F7 k' j)∧∃(z:Nat→Value),S=[.pointer (some ⟨B+7,0,none⟩),.int .i64 (i:Nat),.int .i64 (p.length:Nat),z 3,.int .i64 ((k+1:Nat):Int),z 5,z 6,z 7,z 8,z 9,z 10,z 11,z 12,z 13,z 14,z 15]) 5 ?_ ?_ ?_ ?_
   ·exact⟨F7,hP7,s7,hk7,fun t h1 h2=>by omega,fun _ _ _=>rfl,aE rfl⟩
   ·rintro k S H' hk ⟨F',-,-,-,-,-,z,rfl⟩
    exact⟨_,nm,by simp;omega⟩
   ·rintro k S H' hkk ⟨F',hP,s',hk,hF1,hF2,z,rfl⟩
    have g7:=hP.at_.g7;replace hF1:False∨_:=.inr hF1;replace hF2:False∨_:=.inr hF2;replace t1:False∨_:=.inr t1;replace u2:False∨_:=.inr u2;replace u3:False∨_:=.inr u3;replace u6:False∨_:=.inr u6;have b4:=(fun h=>hbig.resolve_left id 4 ((i+1)*6+(k+1+1)) (by decide) (by decide) (by intro _;omega):k+1<5→F 4 ((i+1)*6+(k+1+1))≤1200000000);clear hbig;(try simp only[aA]);refine gW hP (k:=4) (j:=i*6+(k+1)) (v:=1073741824) (by decide) (by decide) hfar (by rw[w4];omega) (by simp(disch:=first|omega|(simp only[aD];omega))only[evB,dI,Nat.reduceAdd,Nat.reduceMul,Nat.reduceBEq,Int.reduceToNat, *];try rfl) (by simp(disch:=first|omega|(simp only[aD];omega))only[evB,dI,Nat.reduceAdd,Nat.reduceMul,Nat.reduceBEq,Int.reduceToNat, *]) (by simp(disch:=first|omega|(simp only[aD];omega))only[evB,dI,Nat.reduceAdd,Nat.reduceMul,Nat.reduceBEq,Int.reduceToNat, *];try rfl) fun H1 hP1 hl1 hk1=>?_;have g71:H1.get (B+7)=_:=(hk1 _ (by omega)).trans g7;have hkb:=hk.step (by decide) (by decide) hl1 hk1;have s1':=s'.upd (k:=4) (j:=i*6+(k+1)) (v:=1073741824) (by rw[w4];omega);have g41:=hP1.at_.g4;clear g7 hk1;(try simp only[aA]);refine tC (fun h=>?_) (fun h=>?_)
    ·have e:k+1<5∧i<p.length:=by simp only[Bool.and_eq_true,decide_eq_true_eq]at h;omega
     clear h;obtain⟨e1,e2⟩:=e;have b4:=b4 e1;have r4:dJ F' 4 (i*6+(k+1)) 1073741824 4 ((i+1)*6+(k+1+1))=F 4 ((i+1)*6+(k+1+1)):=s1' 4 _ (by rw[w4];omega);(try simp only[aA]);refine gW hP1 (k:=4) (j:=i*6+(k+1)) (v:=1+F 4 ((i+1)*6+(k+1+1))) (by decide) (by decide) (by omega) (by rw[w4];omega) (by simp(disch:=first|omega|(simp only[aD];omega))only[evB,dI,Nat.reduceAdd,Nat.reduceMul,Nat.reduceBEq,Int.reduceToNat, *];try rfl) (by simp(disch:=first|omega|(simp only[aD];omega))only[evB,dI,Nat.reduceAdd,Nat.reduceMul,Nat.reduceBEq,Int.reduceToNat, *]) (by simp(disch:=first|omega|(simp only[aD];omega))only[evB,dI,Nat.reduceAdd,Nat.reduceMul,Nat.reduceBEq,Int.reduceToNat, *];try rfl) fun H2 hP2 hl2 hk2=>?_;have hkc:=hkb.step (by decide) (by decide) hl2 hk2;clear hk2 r4;(try simp only[aA]);(repeat' ((first|refine nN ?_|refine nS rfl ?_);(try simp only[aA])));refine⟨_,hP2,s1'.upd (by rw[w4];omega),hkc,fun t h1 h2=>?_,fun k' j hne=>by rw[bm hne,bm hne];exact hF2.resolve_left id k' j hne,aE rfl⟩;by_cases e:t=k+1
     ·subst e
      rw[dL,if_pos ⟨e1,e2⟩]
     ·rw[ji (by omega),ji (by omega)]
      exact hF1.resolve_left id t h1 (by omega)
    ·have e:¬ (k+1<5∧i<p.length):=by simp only[Bool.and_eq_false_iff,decide_eq_false_iff_not]at h;omega
     clear h;(try simp only[aA]);(repeat' ((first|refine nN ?_|refine nS rfl ?_);(try simp only[aA])));refine⟨_,hP1,s1',hkb,fun t h1 h2=>?_,fun k' j hne=>by rw[bm hne];exact hF2.resolve_left id k' j hne,aE rfl⟩;by_cases e3:t=k+1
     ·subst e3
      rw[dL,if_neg e]
     ·rw[ji (by omega)]
      exact hF1.resolve_left id t h1 (by omega)
   rintro S H' ⟨F8,hP8,s8,hk8,t4,hF8,z,rfl⟩;have t1':∀s',s'<12→F8 1 (i*12+s')=if i=p.length then 0 else 1073741824:=fun s' hs'=>(hF8 1 _ (by decide)).trans (t1 s' hs')
   have u2':=(hF8 2 i (by decide)).trans u2;have u3':F8 3 i=min (if i+6≤p.length then 5+F 3 (i+6) else 1073741824) (if i<p.length then 1+F 4 ((i+1)*6+1) else 1073741824)∨(¬ i<p.length∧F8 3 i=1073741824):=by rw[hF8 3 i (by decide)];exact u3
   have u5':=(hF8 5 i (by decide)).trans u5;have u6':=(hF8 6 i (by decide)).trans u6;have hD:=iM p i;clear t1 u2 u3 u5 u6 hF8 hP7 s7 hk7;(try simp only[aA]);(repeat' ((first|refine nN ?_|refine nS rfl ?_);(try simp only[aA])));refine bk (fun m S H'=>∃(F':FT) (k:Nat),m+k=dgA p i+1∧1≤k∧PlanOk H0 lo H' B (.slice ad p.length c0) p F'∧SameOff F F' i∧KeepB B H H'∧(∀k',1≤k'→k'<k→F' 5 i≤k'/3+1+gg (bC F) i k')∧(F' 5 i=1073741824∨∃k',1≤k'∧k'<k∧F' 5 i=k'/3+1+gg (bC F) i k')∧(∀k' j,k'≠5→F' k' j=F8 k' j)∧∃(z:Nat→Value),S=[.pointer (some ⟨B+7,0,none⟩),.int .i64 (i:Nat),.int .i64 (p.length:Nat),z 3,z 4,.int .i64 (k:Nat),z 6,z 7,z 8,z 9,z 10,z 11,z 12,z 13,z 14,z 15]) (dgA p i) ?_ ?_
   ·exact⟨F8,1,by omega,by omega,hP8,s8,hk8,fun k' h1 h2=>by omega,.inl u5',fun _ _ _=>rfl,aE rfl⟩
   rintro m S H' ⟨F',k,hm,hk1,hP,s',hk,d1,d2,hF,z,rfl⟩;have hx1:=hP.ext.1;have g7:=hP.at_.g7;have hb7:=Heap.get_lt g7;replace t1':False∨_:=.inr t1';replace t4:False∨_:=.inr t4;replace u2':False∨_:=.inr u2';replace u3':False∨_:=.inr u3';replace u5':False∨_:=.inr u5';replace u6':False∨_:=.inr u6';replace d1:False∨_:=.inr d1;replace d2:False∨_:=.inr d2;replace hF:False∨_:=.inr hF;(try simp only[aA]);refine HX ?_;refine aC (mi (by omega) hP.at_ hp hi) ?_;rintro r H2 ⟨rfl,rfl⟩;(try simp only[aA]);refine tC (fun h=>?_) (fun h=>?_)
   ·have e:k≤dgA p i:=by simp only[decide_eq_true_eq]at h;omega
    clear h;have hik:i+k≤p.length:=by omega
    have hk44:k≤44:=by omega
    have g5:=hP.at_.g5;have g6:=hP.at_.g6;have r5:F' 5 (i+k)=F 5 (i+k):=s' 5 _ (by rw[w5];omega);have r6:F' 6 (i+k)=F 6 (i+k):=s' 6 _ (by rw[w6];omega);have b5:=hbig.resolve_left id 5 (i+k) (by decide) (by decide) (by intro h;cases h);have b6:=hbig.resolve_left id 6 (i+k) (by decide) (by decide) (by intro h;cases h);have b0:=hP.big 5 i;have ek3:((k:Nat):Int).tdiv 3=((k/3:Nat):Int):=rfl;have hend:gg (bC F) i k=if k=44 then F 5 (i+k) else F 6 (i+k):=rfl
    replace hend:False∨_:=.inr hend;clear hbig;(try simp only[aA]);(repeat' ((first|refine nN ?_|refine nS rfl ?_);(try simp only[aA])));refine dq (fun S H'=>H2=H'∧∃(v:Nat),(False∨v=gg (bC F) i k)∧v≤1200000000∧∃(z:Nat→Value),S=[.pointer (some ⟨B+7,0,none⟩),.int .i64 (i:Nat),.int .i64 (p.length:Nat),z 3,z 4,.int .i64 (k:Nat),.int .i64 (v:Nat),z 7,z 8,z 9,z 10,z 11,z 12,z 13,z 14,z 15]) ?_ ?_
    ·refine tC (fun h=>?_) (fun h=>?_)
     ·have e4:k=44:=by simp only[decide_eq_true_eq]at h;omega
      clear h;have hv:False∨F 5 (i+k)=gg (bC F) i k:=.inr (by rw[hend.resolve_left id,if_pos e4]);clear e4;(try simp only[aA]);(repeat' ((first|refine nN ?_|refine nS rfl ?_);(try simp only[aA])));exact⟨by trivial,F 5 (i+k),hv,by omega,aE rfl⟩
     ·have e4:¬ k=44:=by simp only[decide_eq_false_iff_not]at h;omega
      clear h;have hv:False∨F 6 (i+k)=gg (bC F) i k:=.inr (by rw[hend.resolve_left id,if_neg e4]);(try simp only[aA]);exact⟨by trivial,F 6 (i+k),hv,by omega,aE rfl⟩
    ·rintro S H' ⟨rfl,v,hv,hvb,z,rfl⟩
     clear r5 r6 g6 b5 b6;(try simp only[aA]);refine gW hP (k:=5) (j:=i) (v:=min (F' 5 i) (k/3+1+v)) (by decide) (by decide) (by omega) (by rw[w5];omega) (by simp(disch:=first|omega|(simp only[aD];omega))only[evB,dI,Nat.reduceAdd,Nat.reduceMul,Nat.reduceBEq,Int.reduceToNat, *];try rfl) (by simp(disch:=first|omega|(simp only[aD];omega))only[evB,dI,Nat.reduceAdd,Nat.reduceMul,Nat.reduceBEq,Int.reduceToNat, *]) (by simp(disch:=first|omega|(simp only[aD];omega))only[evB,dI,Nat.reduceAdd,Nat.reduceMul,Nat.reduceBEq,Int.reduceToNat, *];try rfl) fun H1 hP1 hl1 hk1'=>?_;have hkb:=hk.step (by decide) (by decide) hl1 hk1';clear hk1' g7 g5;(try simp only[aA]);(repeat' ((first|refine nN ?_|refine nS rfl ?_);(try simp only[aA])));simp only[dP];have hv:=hv.resolve_left id;refine⟨m-1,by omega,_,k+1,by omega,by omega,hP1,s'.upd (by rw[w5];omega),hkb,fun k' h1 h2=>?_,?_,fun k' j hne=>by rw[bm hne];exact hF.resolve_left id k' j hne,aE rfl⟩
     ·rw[dL]
      by_cases e3:k'=k
      ·subst e3;rw[←hv];exact Nat.min_le_right _ _
      ·exact Nat.le_trans (Nat.min_le_left _ _) (d1.resolve_left id k' h1 (by omega))
     ·rw[dL]
      rcases Nat.le_total (F' 5 i) (k/3+1+v)with hle|hle
      ·rw[Nat.min_eq_left hle]
       rcases d2.resolve_left id with h|⟨k',h1,h2,h3⟩
       ·exact .inl h
       ·exact .inr ⟨k',h1,by omega,h3⟩
      ·rw[Nat.min_eq_right hle]
       exact .inr ⟨k,hk1,by omega,by rw[hv]⟩
   ·have e:k=dgA p i+1:=by simp only[decide_eq_false_iff_not]at h;omega
    clear h;have hF:=hF.resolve_left id;(try simp only[aA]);refine bN rfl ?_;refine⟨F',hP,⟨s',?_,fun s hs=>?_,?_,?_,fun t h1 h5=>?_,fun k' h1 h2=>d1.resolve_left id k' h1 (by omega),?_⟩,hk⟩
    ·rw[hF 2 i (by decide)];exact u2'.resolve_left id
    ·rw[hF 1 _ (by decide)];exact t1'.resolve_left id s hs
    ·rw[hF 6 i (by decide)];exact u6'.resolve_left id
    ·rw[hF 3 i (by decide)];exact u3'.resolve_left id
    ·rw[hF 4 _ (by decide)];exact t4.resolve_left id t h1 h5
    ·rcases d2.resolve_left id with h|⟨k',h1,h2,h3⟩
     ·exact .inl h
     ·exact .inr ⟨k',h1,by omega,h3⟩
theorem uF{p:List UInt8}{i c:Nat}{t:Thr}(h:c=if i=p.length then 0 else 1073741824)(hf:i=p.length→nb p t):At1 p t c:=by
 subst h;split
 ·rename_i e;exact .inr ⟨[],hf e,rfl⟩
 ·exact At1.far
theorem yg{p:List UInt8}{F F':FT}{i:Nat}(hi:i≤p.length)(h:InitF p F F' i)(ha:∀j,i<j→j≤p.length→AttK p F j):AttK p F' i:=by
 have hA:∀j,i<j→j≤p.length→AttA p (bC F) j:=fun j h1 h2=>(ha j h1 h2).att;intro k j h1 h6 hj h4;rcases(show k=1∨k=2∨k=3∨k=4∨k=5∨k=6 by omega)with rfl|rfl|rfl|rfl|rfl|rfl
 ·rw[wd1]at hj
  have:=h.tx (j%12) (by omega);rw[show i*12+j%12=j by omega]at this;exact uF this fun e=>by simp[jo,nb];omega
 ·rw[wd2]at hj
  have:j=i:=by omega
  subst this;rw[h.sx];split
  ·rename_i h6
   exact At1.six (.inl rfl) h6 (hA (j+6) (by omega) h6).sx 5 0 (by omega) (by omega)
  ·exact At1.far
 ·rw[wd3]at hj
  have:j=i:=by omega
  subst this;have q1:At1 p (3,j,0,0) (if j+6≤p.length then 5+F 3 (j+6) else 1073741824):=by
   split
   ·rename_i h6
    exact At1.six (.inr rfl) h6 (hA (j+6) (by omega) h6).nn 5 0 (by omega) (by omega)
   ·exact At1.far
  rcases h.n0 with e|⟨-,e⟩
  ·rw[e]
   refine q1.min ?_;split
   ·rename_i hlt
    refine((hA (j+1) (by omega) (by omega)).tl 1 (by decide) (by decide)).step (w:=byA p j) ?_;simp only[bK,List.mem_append];refine .inr (.inl ?_);rw[if_pos ⟨trivial,trivial,hlt⟩];exact List.mem_singleton.2 rfl
   ·exact At1.far
  ·rw[e];exact At1.far
 ·rw[wd4]at hj
  have h4:=h4 rfl;have:=h.tl (j%6) (by omega) (by omega);rw[show i*6+j%6=j by omega]at this;have et:jo 4 j=(4,i,j%6,0):=by simp[jo,hj]
  rw[et,this];split
  ·rename_i hc
   refine((hA (i+1) (by omega) (by omega)).tl (j%6+1) (by omega) (by omega)).step (w:=byA p i) ?_;simp only[bK,List.mem_append];refine .inl ?_;rw[if_pos hc];exact List.mem_singleton.2 rfl
  ·exact At1.far
 ·rw[wd5]at hj
  have:j=i:=by omega
  subst this;rcases h.du with e|⟨k,h1,h2,e⟩
  ·rw[e];exact At1.far
  ·rw[e]
   have hle:=iM p j;have L:=hA (j+k) (by omega) (by omega);have:=At1.dig (p:=p) (i:=j) (by omega) (At1.digE (T:=bC F) (i:=j) (a:=k) L.dg L.en) (k/3) 1 (by omega);refine(At1.step (t:=(5,j,0,0)) (w:=(dF p j k).getD 0 0) this ?_).of_eq (by omega);simp only[bK,Nat.lt_irrefl,if_false,List.mem_append,List.mem_map,List.mem_range];exact .inr ⟨k-1,by omega,by rw[show k-1+1=k by omega]⟩
 ·rw[wd6]at hj
  have:j=i:=by omega
  subst this;exact uF h.en fun e=>e
theorem xj{p:List UInt8}{F F':FT}{i:Nat}(h:InitF p F F' i):LowF p F' i where
 s6:=fun h6=>by
  rw[h.sx,if_pos h6,h.off 2 (i+6) (by rw[wd2];omega)];exact Nat.le_refl _
 n6:=fun h6=>by
  rw[h.off 3 (i+6) (by rw[wd3];omega)];rcases h.n0 with e|⟨e,-⟩
  ·rw[e,if_pos h6];exact Nat.min_le_left _ _
  ·omega
 n1:=fun h6=>by
  rw[h.off 4 ((i+1)*6+1) (by rw[wd4];omega)];rcases h.n0 with e|⟨e,-⟩
  ·rw[e,if_pos h6];exact Nat.min_le_right _ _
  ·omega
 t1:=fun h6 t h1 h5=>by
  rw[h.tl t h1 (by omega),if_pos ⟨h5,h6⟩,h.off 4 ((i+1)*6+(t+1)) (by rw[wd4];omega)];exact Nat.le_refl _
 dk:=fun k h1 hk=>by
  have e:gg (bC F') i k=gg (bC F) i k:=by
   simp only[gg,bC];rw[h.off 5 (i+k) (by rw[wd5];omega),h.off 6 (i+k) (by rw[wd6];omega)]
  rw[e];exact h.dl k h1 hk
 e0:=fun hp=>⟨by rw[h.en,if_pos hp],fun s hs=>by rw[h.tx s hs,if_pos hp]⟩
theorem zD{lo:Nat}{H:Heap}{X j q:Nat}{c:List Value}{old v:Nat}{b:Bool}(hX:H.get X=some c)(hj:c[j]?=some (.int .i64 ((old:Nat):Int)))(hq:H.get q=some [.bool b])(hlX:lo≤X)(hlq:lo≤q)(hne:q≠X) :
  Ev cp lo 72 [.pointer (some ⟨X,j,none⟩),.int .i64 ((v:Nat):Int),.pointer (some ⟨q,0,none⟩)] H (fun r H'=>H'=if v<old then(H.set X (some (c.set j (.int .i64 ((v:Nat):Int))))).set q (some [.bool true]) else H):=by
 have hjl:j<c.length:=by
  rcases Nat.lt_or_ge j c.length with h|h
  ·exact h
  ·rw[List.getElem?_eq_none h]at hj;cases hj
 have hXl:=Heap.get_lt hX;have hql:=Heap.get_lt hq;refine J3 ?_;unfold DH yr;simp only[kB,aA];refine tC (fun h=>?_) (fun h=>?_)
 ·have e:v<old:=by simp only[decide_eq_true_eq]at h;omega
  clear h;rw[if_pos e];(try simp only[aA]);repeat' ((first|refine nN ?_|refine nS rfl ?_);(try simp only[aA]))
  refine bN rfl ?_;rfl
 ·have e:¬ v<old:=by simp only[decide_eq_false_iff_not]at h;omega
  clear h;rw[if_neg e];(try simp only[aA]);refine bN rfl ?_;rfl
structure RS (p:List UInt8)(i:Nat)(F0 F1:FT)(cb:Bool)(I:Prop):Prop where
 same:cb=false→F1=F0∧I
 less:cb=true→qb F1 i<qb F0 i
 off:SameOff F0 F1 i
 dec:DecA F0 F1 i
 att:AttK p F1 i
theorem A8{F F1:FT}{i:Nat}(h:DecA F F1 i):qb F1 i≤qb F i:=tB fun e he=>h e.1 e.2 (vN he)
theorem RS.up{p:List UInt8}{i:Nat}{F0 F1:FT}{cb:Bool}{I J:Prop}{k j v:Nat}(h:RS p i F0 F1 cb I)(h1:1≤k)(h6:k≤6)(hj:j/wd k=i)(hv:At1 p (jo k j) v)(hlt:v<F1 k j):RS p i F0 (dJ F1 k j v) true J where
 same:=fun e=>by cases e
 less:=fun _=>by
  have:=xG h1 h6 hj hlt;have:=A8 h.dec;omega
 off:=h.off.upd hj
 dec:=h.dec.upd (Nat.le_of_lt hlt)
 att:=h.att.upd hv
theorem RS.stay{p:List UInt8}{i:Nat}{F0 F1:FT}{cb:Bool}{I J:Prop}(h:RS p i F0 F1 cb I)(hJ:F1=F0→I→J):RS p i F0 F1 cb J:=
 ⟨fun e=>⟨(h.same e).1,hJ (h.same e).1 (h.same e).2⟩,h.less,h.off,h.dec,h.att⟩
structure HS (H0:Heap)(lo:Nat)(H:Heap)(B:Nat)(pv:Value)(p:List UInt8)(i A q:Nat)(cs mb:List Value)(F:FT)(cb:Bool):Prop where
 gB:H.get B=some mb
 ok:PlanOk H0 lo H B pv p F
 gq:H.get q=some [.bool cb]
 gA:H.get A=some cs
 arc:∀s,s<12→SlR (A+1) 3 eL H (cs.getD s undef) (bq p i s)
 bA:B+7<A
 Aq:A<q
 nq:∀s,s<12→∀b o n,cs.getD s undef=.slice (some ⟨b,o,n⟩) (bq p i s).length (bq p i s).length→b≠q
theorem SlR.set{α:Type}{A w:Nat}{enc:α→List Value}{H:Heap}{v:Value}{l:List α}{b:Nat}{x:Option (List Value)}(h:SlR A w enc H v l)(hb:∀b' o n,v=.slice (some ⟨b',o,n⟩) l.length l.length→b'≠b):SlR A w enc (H.set b x) v l:=by
 obtain⟨h1,h2|⟨b',sp,h0,h3,h4,h5⟩⟩:=h
 ·exact⟨h1,.inl h2⟩
 ·exact⟨h1,.inr ⟨b',sp,h0,h3,h4,by rw[aM (hb b' 0 sp h3).symm];exact h5⟩⟩
theorem SlR.low{α:Type}{A w:Nat}{enc:α→List Value}{H:Heap}{v:Value}{l:List α}(h:SlR A w enc H v l){b:Nat}(hb:b<A):∀b' o n,v=.slice (some ⟨b',o,n⟩) l.length l.length→b'≠b:=by
 intro b' o n e;obtain⟨h1,⟨rfl,h2⟩|⟨b2,sp,h0,h3,h4,h5⟩⟩:=h
 ·cases e
 ·subst h3
  injection e with e1;injection e1 with e1;injection e1 with e1;omega
theorem SlR.len{α:Type}{A w:Nat}{enc:α→List Value}{H:Heap}{v:Value}{l:List α}(h:SlR A w enc H v l):∃a,v=.slice a l.length l.length:=by
 obtain⟨h1,⟨rfl,rfl⟩|⟨b2,sp,h0,h3,h4,h5⟩⟩:=h
 ·exact⟨none,rfl⟩
 ·exact⟨_,h3⟩
theorem SlR.weak{α:Type}{A A' w:Nat}{enc:α→List Value}{H:Heap}{v:Value}{l:List α}(h:SlR A w enc H v l)(hA:A'≤A):SlR A' w enc H v l:=by
 obtain⟨h1,h2|⟨b2,sp,h0,h3,h4,h5⟩⟩:=h
 ·exact⟨h1,.inl h2⟩
 ·exact⟨h1,.inr ⟨b2,sp,by omega,h3,h4,h5⟩⟩
theorem HS.ex{H0:Heap}{lo:Nat}{H H':Heap}{B:Nat}{pv:Value}{p:List UInt8}{i A q:Nat}{cs mb:List Value}{F:FT}{cb:Bool}(h:HS H0 lo H B pv p i A q cs mb F cb)(hx:Ext H H'):HS H0 lo H' B pv p i A q cs mb F cb:=
 ⟨hx.get h.gB,h.ok.ex hx,hx.get h.gq,hx.get h.gA,fun s hs=>(h.arc s hs).mono hx,h.bA,h.Aq,h.nq⟩
theorem HS.mark{H0:Heap}{lo:Nat}{H:Heap}{B:Nat}{pv:Value}{p:List UInt8}{i A q:Nat}{cs mb:List Value}{F:FT}{cb:Bool}(h:HS H0 lo H B pv p i A q cs mb F cb)(cb':Bool):HS H0 lo (H.set q (some [.bool cb'])) B pv p i A q cs mb F cb':=by
 have hlow:=h.ok.low;have hA:=h.Aq;have hB:=h.bA;have hx:=h.ok.ext.set (i:=q) (x:=some [.bool cb']) (by omega);have hql:=Heap.get_lt h.gq;refine⟨by rw[aM (by omega)];exact h.gB,⟨⟨by rw[aM (by omega)];exact h.ok.at_.g7,fun k h1 h6=>by rw[aM (by omega)];exact h.ok.at_.gk k h1 h6,h.ok.pay.mono hx⟩,hx,h.ok.low,h.ok.lo,h.ok.pay,h.ok.big⟩,aN hql,by rw[aM (by omega)];exact h.gA,fun s hs=>(h.arc s hs).set (h.nq s hs),h.bA,h.Aq,h.nq⟩
theorem HS.upd{H0:Heap}{lo:Nat}{H:Heap}{B:Nat}{pv:Value}{p:List UInt8}{i A q:Nat}{cs mb:List Value}{F:FT}{cb:Bool}(h:HS H0 lo H B pv p i A q cs mb F cb){k j v:Nat}(h1:1≤k)(h6:k≤6)(hv:v≤2000000000):HS H0 lo (H.set (B+k) (some (dB ((p.length+1)*wd k) (pE (F k) j v)))) B pv p i A q cs mb (dJ F k j v) cb:=by
 have hA:=h.Aq;have hB:=h.bA;exact⟨by rw[aM (by omega)];exact h.gB,h.ok.set h1 h6 hv,by rw[aM (by omega)];exact h.gq,by rw[aM (by omega)];exact h.gA,fun s hs=>(h.arc s hs).set ((h.arc s hs).low (by omega)),h.bA,h.Aq,h.nq⟩
theorem kj{H0:Heap}{lo:Nat}{H:Heap}{B:Nat}{pv:Value}{p:List UInt8}{i A q:Nat}{cs mb:List Value}{F0 F1:FT}{cb:Bool}{I J:Prop}{k j v:Nat}{l:List (Nat×E)}{chk:List E}{a:E}{Q:aX}{S:List Value}{vs:List (Nat×Value)}
  (hs:HS H0 lo H B pv p i A q cs mb F1 cb) (hr:RS p i F0 F1 cb I) (h1:1≤k) (h6:k≤6) (hj:j/wd k=i) (hi:j<(p.length+1)*wd k) (hv:At1 p (jo k j) v) (hJ:F1=F0→I→F0 k j≤v→J)
  (h:evSets S H l=some vs) (hc:evChk S H chk=true) (ha:ev S H a=some [.func (.func 72) #[] #[.pointer (some ⟨q,0,none⟩)],.pointer (some ⟨B+k,j,none⟩),.int .i64 ((v:Nat):Int)])
  (kk:∀H' F2 cb2,HS H0 lo H' B pv p i A q cs mb F2 cb2→RS p i F0 F2 cb2 J→H.length≤H'.length→Q .normal (setAll S vs) H'):wpS cp lo (.hv l chk [] none (.call false) a) Q S H:=by
 have hlo:=hs.ok.lo;have hA:=hs.Aq;have hB:=hs.bA;have hg:=hs.ok.at_.gk k h1 h6;have hbig:=hs.ok.big k j;refine gG h hc ha (aC (zD (old:=F1 k j) hg (cU hi) hs.gq (by omega) (by omega) (by omega)) ?_);rintro r H' rfl;simp only[setD];split
 ·rename_i hlt
  rw[mN];exact kk _ _ _ ((hs.upd h1 h6 (by omega)).mark true) (hr.up h1 h6 hj hv hlt) (by simp)
 ·rename_i hge
  exact kk _ _ _ hs (hr.stay fun e hI=>hJ e hI (by rw[←e];omega)) (Nat.le_refl _)
structure LowR (p:List UInt8)(F:FT)(i:Nat):Prop where
 en:F 6 i≤mc (bC F) i
 sx:F 2 i≤F 6 i
 dg:F 5 i≤F 6 i
 tl:∀t,1≤t→t≤5→F 4 (i*6+t)≤F 6 i
 cm:∀s,s<12→F 1 (i*12+s)≤mc (bC F) i
 by1:i<p.length→∀s,s<12→F 1 (i*12+s)≤2+F 1 ((i+1)*12+s/3*3)
 ar:∀s,s<12→∀x ∈ bq p i s,F 1 (i*12+s)≤1+F 1 ((i+x.2.1)*12+x.2.2)
theorem Ad{p:List UInt8}{F:FT}{i:Nat}(h:LowR p F i)(g:LowF p F i):LowA p (bC F) i:=
 ⟨h.ar,h.by1,h.cm,h.en,h.sx,h.dg,h.tl,g.s6,g.n6,g.n1,g.t1,g.dk,g.e0⟩
theorem Ar{H:Heap}(a b c d:Nat):aG (.minmax false) [.int .i64 ((a:Nat):Int),.int .i64 ((b:Nat):Int),.int .i64 ((c:Nat):Int),.int .i64 ((d:Nat):Int)] H=some (.int .i64 ((min (min (min a b) c) d:Nat):Int)):=by
 have key:∀x y:Nat,il false (.int .i64 ((x:Nat):Int)) (.int .i64 ((y:Nat):Int))=some (.int .i64 ((min x y:Nat):Int)):=by
  intro x y;simp only[il,Bool.false_eq_true,if_false,Option.some.injEq,Value.int.injEq,true_and];split<;>omega
 simp only[aG,List.foldlM_cons,List.foldlM_nil,key,Option.bind_eq_bind,Option.bind_some];rfl
end Go.Proofs.YtgpolmomghejoaaDoor
