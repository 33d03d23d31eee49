/- Lemmas. -/
import Derived.Test.YtgpolmomghejoaaDoorE22
set_option linter.unusedVariables false
set_option linter.unusedSimpArgs false
set_option linter.unusedSectionVars false
namespace Go.Proofs.YtgpolmomghejoaaDoor
open Go.Abs
set_option maxRecDepth 20000
set_option linter.defProp false in
def fi:=And.intro @Int.cast_ofNat_Int (And.intro @ite_self.{1} (And.intro @fB (And.intro @cE (And.intro @cU (And.intro @ca1 (And.intro @ca6 (And.intro @caN (And.intro @ch2 (And.intro @c5 (And.intro @c1 (And.intro @GY @Ar)))))))))))
theorem me{P:Prop}(h:P:=by simp(disch:=first|omega|(simp only[aD];omega))only[evB,fi,Nat.reduceAdd,Nat.reduceMul,Nat.reduceBEq,Int.reduceToNat, *];rfl):P:=h
theorem lg{cp:FuncId→Option CF}{lo:Nat}{l:List (Nat×E)}{chk:List E}{Q:aX}{S:List Value}{H:Heap}{vs:List (Nat×Value)}{S':List Value}(k:Q .normal S' H)(h:evSets S H l=some vs:=by exact me)(hc:evChk S H chk=true:=by simp(disch:=first|omega|(simp only[aD];omega))only[evB,fi,Nat.reduceAdd,Nat.reduceMul,Nat.reduceBEq,Int.reduceToNat, *])(hS:setAll S vs=S':=by exact me):wpS cp lo (.sets l chk) Q S H:=eF h hc hS k
theorem Ii{cp:FuncId→Option CF}{lo:Nat}{l:List (Nat×E)}{chk:List E}{Q:aX}{S:List Value}{H:Heap}{vs:List (Nat×Value)}{dst:Option Nat}{o:HOp}{a:E}{xs:List Value}(k:wpH cp lo o xs H fun v H'=>Q .normal (setD (setAll S vs) dst v) H')(h:evSets S H l=some vs:=by exact me)(hc:evChk S H chk=true:=by simp(disch:=first|omega|(simp only[aD];omega))only[evB,fi,Nat.reduceAdd,Nat.reduceMul,Nat.reduceBEq,Int.reduceToNat, *])(ha:ev S H a=some xs:=by exact me):wpS cp lo (.hv l chk [] dst o a) Q S H:=gG h hc ha k
theorem lQ{cp:FuncId→Option CF}{lo:Nat}{l:List (Nat×E)}{chk:List E}{Q:aX}{S:List Value}{H:Heap}{vs:List (Nat×Value)}{dst:Option Nat}{o:HOp}{a:E}{xs:List Value}{S':List Value}{H':Heap}{v:Value}(hcall:o.isCall=false)(k:Q .normal S' H')(h:evSets S H l=some vs:=by exact me)(hc:evChk S H chk=true:=by simp(disch:=first|omega|(simp only[aD];omega))only[evB,fi,Nat.reduceAdd,Nat.reduceMul,Nat.reduceBEq,Int.reduceToNat, *])(ha:ev S H a=some xs:=by exact me)(ho:aR lo o xs H=some (v,H'):=by exact me)(hS:setD (setAll S vs) dst v=S':=by exact me):wpS cp lo (.hv l chk [] dst o a) Q S H:=eV hcall h hc ha ho hS k
theorem KK{cp:FuncId→Option CF}{lo:Nat}{c:E}{a b:Stm}{Q:aX}{S:List Value}{H:Heap}{t:Bool}(k1:t=true→wpS cp lo a Q S H)(k2:t=false→wpS cp lo b Q S H)(h:ev1 S H c=some (.bool t):=by exact me):wpS cp lo (.cond c a b) Q S H:=aF h k1 k2
theorem C0{H0:Heap}{lo:Nat}{H:Heap}{B:Nat}{pv:Value}{p:List UInt8}{F:FT}{i:Nat}{mb:List Value}(hP:PlanOk H0 lo H B pv p F)(hB:H.get B=some mb)(hp:p.length≤4096)(hi:i≤p.length)(ha:AttK p F i)(hup:∀j,i<j→j≤p.length→AttK p F j)(hl:LowF p F i) :
  Ev cp lo 52 [.pointer (some ⟨B+7,0,none⟩),.int .i64 (i:Nat)] H (fun r H'=>∃F',PlanOk H0 lo H' B pv p F'∧H'.get B=some mb∧SameOff F F' i∧DecA F F' i∧AttK p F' i∧LowA p (bC F') i):=by
 obtain⟨ad,c0,rfl⟩:=hP.pay.len;have hb7:=Heap.get_lt hP.at_.g7;have hlo:=hP.lo;have hx0:=hP.ext.1;have hlow:=hP.low;have w1:=wd1;have w2:=wd2;have w4:=wd4;have w5:=wd5;have w6:=wd6;refine LW ?_;unfold Dz xQ;simp only[kB,aA];repeat' ((first|refine lg ?_|refine lQ rfl ?_);(try simp only[aA]))
 have hxG:Ext H (H++[some [Value.slice none 0 0,.slice none 0 0,.slice none 0 0,.slice none 0 0,.slice none 0 0,.slice none 0 0,.slice none 0 0,.slice none 0 0,.slice none 0 0,.slice none 0 0,.slice none 0 0,.slice none 0 0]]):=Ext.app _ _;have hgG:Heap.get (H++[some [Value.slice none 0 0,.slice none 0 0,.slice none 0 0,.slice none 0 0,.slice none 0 0,.slice none 0 0,.slice none 0 0,.slice none 0 0,.slice none 0 0,.slice none 0 0,.slice none 0 0,.slice none 0 0]]) H.length=some [Value.slice none 0 0,.slice none 0 0,.slice none 0 0,.slice none 0 0,.slice none 0 0,.slice none 0 0,.slice none 0 0,.slice none 0 0,.slice none 0 0,.slice none 0 0,.slice none 0 0,.slice none 0 0]:=aH;have hlG:(H++[some [Value.slice none 0 0,.slice none 0 0,.slice none 0 0,.slice none 0 0,.slice none 0 0,.slice none 0 0,.slice none 0 0,.slice none 0 0,.slice none 0 0,.slice none 0 0,.slice none 0 0,.slice none 0 0]]).length=H.length+1:=by simp
 generalize H++[some [Value.slice none 0 0,.slice none 0 0,.slice none 0 0,.slice none 0 0,.slice none 0 0,.slice none 0 0,.slice none 0 0,.slice none 0 0,.slice none 0 0,.slice none 0 0,.slice none 0 0,.slice none 0 0]]=G at *;refine ai (fun s S H'=>Ext H H'∧(∃cs:List Value,cs.length=12∧Heap.get H' H.length=some cs∧(∀s',s'<s→SlR (H.length+1) 3 eL H' (cs.getD s' undef) (bq p i s')))∧∃(z:Nat→Value),S=[.pointer (some ⟨B+7,0,none⟩),.int .i64 (i:Nat),.pointer (some ⟨H.length,0,none⟩),z 3,z 4,z 5,z 6,z 7,z 8,z 9,.int .i64 (s:Nat),z 11,z 12,z 13,z 14,z 15,z 16,z 17]) 12 ?_ ?_ ?_ ?_
 ·exact⟨hxG,⟨_,rfl,hgG,fun s' hs'=>by omega⟩,aE rfl⟩
 ·rintro s S H' hs ⟨hx,-,z,rfl⟩
  exact⟨_,me,by simp;omega⟩
 ·rintro s S H' hs ⟨hx,⟨cs,hcl,hgA,hcs⟩,z,rfl⟩
  have hAl:=Heap.get_lt hgA;(try simp only[aA]);repeat' ((first|refine lg ?_|refine lQ rfl ?_);(try simp only[aA]))
  refine Ii ?_;refine aC (CA (by omega) (hP.at_.ext hx) hp hi hs) ?_;rintro r H2 ⟨hx2,hr⟩;have hgA2:=hx2.get hgA;have hx21:=hx2.1;have hrw:=hr.weak (A':=H.length+1) (by omega);obtain⟨ar,har⟩:=hr.len;replace har:r=.slice ar (bq p i s).length (bq p i s).length:=har;rw[har]at hrw;have hcs2:∀s',s'<s→SlR (H.length+1) 3 eL H2 (cs.getD s' undef) (bq p i s'):=fun s' hs'=>(hcs s' hs').mono hx2;replace hcs2:False∨_:=.inr hcs2;clear hcs hr hgA;subst har;(try simp only[aA]);repeat' ((first|refine lg ?_|refine lQ rfl ?_);(try simp only[aA]))
  refine⟨(hx.trans hx2).set (Nat.le_refl _),⟨_,?_,aN (by omega),fun s' hs'=>?_⟩,aE (by first|rfl|(simp only[Int.natCast_add,Int.natCast_one];rfl)|simp only[Int.natCast_add,Int.natCast_one])⟩
  ·rw[List.length_set];exact hcl
  ·by_cases e:s'=s
   ·subst e
    rw[show(cs.set s' (.slice ar (bq p i s').length (bq p i s').length)).getD s' undef=.slice ar (bq p i s').length (bq p i s').length by rw[List.getD_eq_getElem?_getD,List.getElem?_set_self (by omega)];rfl];exact hrw.set (hrw.low (by omega))
   ·rw[show(cs.set s (.slice ar (bq p i s).length (bq p i s).length)).getD s' undef=cs.getD s' undef by rw[List.getD_eq_getElem?_getD,List.getElem?_set_ne (fun h=>e h.symm),←List.getD_eq_getElem?_getD]]
    have:=hcs2.resolve_left id s' (by omega);exact this.set (this.low (by omega))
 rintro S H' ⟨hx,⟨cs,hcl,hgA,hcs⟩,z,rfl⟩;have hAl:=Heap.get_lt hgA;replace hcs:False∨_:=.inr hcs;(try simp only[aA]);repeat' ((first|refine lg ?_|refine lQ rfl ?_);(try simp only[aA]))
 have hbq:Ext H' (H'++[some [.bool true]]):=Ext.app _ _;have hgq:Heap.get (H'++[some [.bool true]]) H'.length=some [.bool true]:=aH;have hcs:=hcs.resolve_left id;have HS1:HS H0 lo (H'++[some [.bool true]]) B (.slice ad p.length c0) p i H.length H'.length cs mb F true:=by
  refine⟨hbq.get (hx.get hB),(hP.ex hx).ex hbq,hgq,hbq.get hgA,fun s hs=>(hcs s hs).mono hbq,by omega,hAl,fun s hs b o n e=>?_⟩;have:=hcs s hs;rw[e]at this;obtain⟨-,⟨h,-⟩|⟨b2,sp,-,h3,-,h5⟩⟩:=this
  ·cases h
  ·have:=Heap.get_lt h5
   injection h3 with h3;injection h3 with h3;injection h3 with h3;omega
 generalize H'++[some [.bool true]]=K at *;have hHL:H.length+1≤H'.length:=by omega
 generalize hq0:H'.length=q at *;clear hgq hbq hcs hgA hx hq0 hxG hgG hlG;generalize hA0:H.length=A at *;clear hA0 hB hP;refine bk (fun m S K=>∃(F1:FT) (cb:Bool),HS H0 lo K B (.slice ad p.length c0) p i A q cs mb F1 cb∧SameOff F F1 i∧DecA F F1 i∧AttK p F1 i∧(cb=false→LowR p F1 i)∧m=(if cb then qb F1 i+1 else 0)∧∃(z:Nat→Value),S=[.pointer (some ⟨B+7,0,none⟩),.int .i64 (i:Nat),.pointer (some ⟨A,0,none⟩),z 3,.pointer (some ⟨q,0,none⟩),.func (.func 72) #[] #[.pointer (some ⟨q,0,none⟩)],z 6,z 7,z 8,z 9,z 10,z 11,z 12,z 13,z 14,z 15,z 16,z 17]) (qb F i+1) ?_ ?_
 ·exact⟨F,true,HS1,SameOff.refl F i,DecA.refl F i,ha,fun h=>(by cases h),rfl,aE rfl⟩
 clear HS1 ha;rintro m S K ⟨F1,cb,hs,hoff,hdec,hatt,hlow1,rfl,z,rfl⟩;have hgq:=hs.gq;have hql:=Heap.get_lt hgq;cases cb with
 | false=>
  (try simp only[aA]);refine aF (t:=false) (by simp(disch:=first|omega|(simp only[aD];omega))only[evB,fi,Nat.reduceAdd,Nat.reduceMul,Nat.reduceBEq,Int.reduceToNat, *];try rfl) (fun h=>by cases h) (fun h=>?_);clear h;(try simp only[aA]);refine bN rfl ?_;exact⟨F1,hs.ok,hs.gB,hoff,hdec,hatt,Ad (hlow1 rfl) (hl.dec hoff hdec)⟩
 | true=>
  clear hlow1;have hbA:=hs.bA;have hAq:=hs.Aq;have hs1:=hs.mark false;have hm0:RS p i F1 F1 false True:=⟨fun _=>⟨rfl,trivial⟩,fun h=>(by cases h),SameOff.refl F1 i,DecA.refl F1 i,hatt⟩;have hA1:=hatt.att;have hcmd:∀{t:Thr},ik p t i→At1 p t (mc (bC F1) i):=fun hc=>At1.cmd (hA1.tx 0 (by decide)) hA1.sx hA1.nn hA1.dg hc;have hup1:∀j,i<j→j≤p.length→AttK p F1 j:=fun j h1 h2=>(hup j h1 h2).off hoff (by omega);have hbg:=hs.ok.big;replace hbg:False∨_:=.inr hbg;replace hup1:False∨_:=.inr hup1;(try simp only[aA]);refine aF (t:=true) (by simp(disch:=first|omega|(simp only[aD];omega))only[evB,fi,Nat.reduceAdd,Nat.reduceMul,Nat.reduceBEq,Int.reduceToNat, *];try rfl) (fun h=>?_) (fun h=>by cases h);clear h;(try simp only[aA])
  ((first|refine lg ?_|refine lQ rfl ?_);(try simp only[aA]))
  generalize List.set K q (some [.bool false])=K1 at *;clear hs hgq;have g7:=hs1.ok.at_.g7;have g1:=hs1.ok.at_.g1;have g2:=hs1.ok.at_.g2;have g3:=hs1.ok.at_.g3;have g5:=hs1.ok.at_.g5;have b1:=hbg.resolve_left id 1 (i*12);have b2:=hbg.resolve_left id 2 i;have b3:=hbg.resolve_left id 3 i;have b5:=hbg.resolve_left id 5 i;obtain⟨C,hC⟩:∃C,1+min (min (min (F1 1 (i*12)) (F1 2 i)) (F1 3 i)) (F1 5 i)=C:=⟨_,rfl⟩;have hCc:mc (bC F1) i=C:=hC;rw[hCc]at hcmd
  ((first|refine lg ?_|refine lQ rfl ?_);(try simp only[aA]))
  clear hC b1 b2 b3 b5 g1 g2 g3 g5;refine kj (J:=F1 6 i≤C) hs1 hm0 (k:=6) (j:=i) (v:=C) (by decide) (by decide) (by rw[w6];omega) (by rw[w6];omega) (hcmd (Gh p i 0 0)) (fun _ _ h=>h) (by simp(disch:=first|omega|(simp only[aD];omega))only[evB,fi,Nat.reduceAdd,Nat.reduceMul,Nat.reduceBEq,Int.reduceToNat, *];try rfl) (by simp(disch:=first|omega|(simp only[aD];omega))only[evB,fi,Nat.reduceAdd,Nat.reduceMul,Nat.reduceBEq,Int.reduceToNat, *]) (by simp(disch:=first|omega|(simp only[aD];omega))only[evB,fi,Nat.reduceAdd,Nat.reduceMul,Nat.reduceBEq,Int.reduceToNat, *];try rfl) fun K2 F2 cb2 hs2 hr2 hl2=>?_;clear hm0 hs1 g7;have g7:=hs2.ok.at_.g7;have g6:=hs2.ok.at_.g6;have he2:At1 p (6,i,0,0) (F2 6 i):=hr2.att.att.en;(try simp only[aA]);refine kj (J:=F1 6 i≤C∧F1 2 i≤F1 6 i) hs2 hr2 (k:=2) (j:=i) (v:=F2 6 i) (by decide) (by decide) (by rw[w2];omega) (by rw[w2];omega) (he2.ofEnd (Fi p i) fun e=>⟨e,rfl⟩) (fun e h h2=>⟨h,by rw[e]at h2;exact h2⟩) (by simp(disch:=first|omega|(simp only[aD];omega))only[evB,fi,Nat.reduceAdd,Nat.reduceMul,Nat.reduceBEq,Int.reduceToNat, *];try rfl) (by simp(disch:=first|omega|(simp only[aD];omega))only[evB,fi,Nat.reduceAdd,Nat.reduceMul,Nat.reduceBEq,Int.reduceToNat, *]) (by simp(disch:=first|omega|(simp only[aD];omega))only[evB,fi,Nat.reduceAdd,Nat.reduceMul,Nat.reduceBEq,Int.reduceToNat, *];try rfl) fun K3 F3 cb3 hs3 hr3 hl3=>?_;clear hs2 hr2 g7 g6 he2;have g7:=hs3.ok.at_.g7;have g6:=hs3.ok.at_.g6;have he3:At1 p (6,i,0,0) (F3 6 i):=hr3.att.att.en;(try simp only[aA]);refine kj (J:=F1 6 i≤C∧F1 2 i≤F1 6 i∧F1 5 i≤F1 6 i) hs3 hr3 (k:=5) (j:=i) (v:=F3 6 i) (by decide) (by decide) (by rw[w5];omega) (by rw[w5];omega) (he3.ofEnd (G3 p i) fun e=>⟨e,rfl⟩) (fun e h h2=>⟨h.1,h.2,by rw[e]at h2;exact h2⟩) (by simp(disch:=first|omega|(simp only[aD];omega))only[evB,fi,Nat.reduceAdd,Nat.reduceMul,Nat.reduceBEq,Int.reduceToNat, *];try rfl) (by simp(disch:=first|omega|(simp only[aD];omega))only[evB,fi,Nat.reduceAdd,Nat.reduceMul,Nat.reduceBEq,Int.reduceToNat, *]) (by simp(disch:=first|omega|(simp only[aD];omega))only[evB,fi,Nat.reduceAdd,Nat.reduceMul,Nat.reduceBEq,Int.reduceToNat, *];try rfl) fun K4 F4 cb4 hs4 hr4 hl4=>?_;clear hs3 hr3 g7 g6 he3;(try simp only[aA]);repeat' ((first|refine lg ?_|refine lQ rfl ?_);(try simp only[aA]))
  refine ai (fun k S K=>∃F' cb',HS H0 lo K B (.slice ad p.length c0) p i A q cs mb F' cb'∧RS p i F1 F' cb' ((F1 6 i≤C∧F1 2 i≤F1 6 i∧F1 5 i≤F1 6 i)∧∀t,1≤t→t≤k→F1 4 (i*6+t)≤F1 6 i)∧∃(z:Nat→Value),S=[.pointer (some ⟨B+7,0,none⟩),.int .i64 (i:Nat),.pointer (some ⟨A,0,none⟩),z 3,.pointer (some ⟨q,0,none⟩),.func (.func 72) #[] #[.pointer (some ⟨q,0,none⟩)],.int .i64 (C:Nat),.int .i64 ((k+1:Nat):Int),z 8,z 9,z 10,z 11,z 12,z 13,z 14,z 15,z 16,z 17]) 5 ?_ ?_ ?_ ?_
  ·exact⟨F4,cb4,hs4,hr4.stay fun _ h=>⟨h,fun t h1 h2=>by omega⟩,aE rfl⟩
  ·rintro k S K hk ⟨F',cb',hs,-,z,rfl⟩
   exact⟨_,me,by simp;omega⟩
  ·rintro k S K hkk ⟨F',cb',hs,hr,z,rfl⟩
   have g7:=hs.ok.at_.g7;have g6:=hs.ok.at_.g6;have he3:At1 p (6,i,0,0) (F' 6 i):=hr.att.att.en;have eth:jo 4 (i*6+(k+1))=(4,i,k+1,0):=by simp[jo];omega
   (try simp only[aA]);refine kj (J:=(F1 6 i≤C∧F1 2 i≤F1 6 i∧F1 5 i≤F1 6 i)∧∀t,1≤t→t≤k+1→F1 4 (i*6+t)≤F1 6 i) hs hr (k:=4) (j:=i*6+(k+1)) (v:=F' 6 i) (by decide) (by decide) (by rw[w4];omega) (by rw[w4];omega) (by rw[eth];exact he3.ofEnd (Gp p i _ 0) fun e=>e) (fun e h h2=>⟨h.1,fun t h3 h4=>?_⟩) (by simp(disch:=first|omega|(simp only[aD];omega))only[evB,fi,Nat.reduceAdd,Nat.reduceMul,Nat.reduceBEq,Int.reduceToNat, *];try rfl) (by simp(disch:=first|omega|(simp only[aD];omega))only[evB,fi,Nat.reduceAdd,Nat.reduceMul,Nat.reduceBEq,Int.reduceToNat, *]) (by simp(disch:=first|omega|(simp only[aD];omega))only[evB,fi,Nat.reduceAdd,Nat.reduceMul,Nat.reduceBEq,Int.reduceToNat, *];try rfl) fun K5 F5 cb5 hs5 hr5 hl5=>?_
   ·by_cases e2:t=k+1
    ·subst e2;rw[e]at h2;exact h2
    ·exact h.2 t h3 (by omega)
   clear hs hr g7 g6 he3 eth;(try simp only[aA]);(repeat' ((first|refine lg ?_|refine lQ rfl ?_);(try simp only[aA])));exact⟨F5,cb5,hs5,hr5,aE rfl⟩
  clear hs4 hr4;rintro S K ⟨F4,cb4,hs4,hr4,z,rfl⟩;(try simp only[aA]);repeat' ((first|refine lg ?_|refine lQ rfl ?_);(try simp only[aA]))
  refine ai (fun s S K=>∃F' cb',HS H0 lo K B (.slice ad p.length c0) p i A q cs mb F' cb'∧RS p i F1 F' cb' (((F1 6 i≤C∧F1 2 i≤F1 6 i∧F1 5 i≤F1 6 i)∧∀t,1≤t→t≤5→F1 4 (i*6+t)≤F1 6 i)∧∀s',s'<s→F1 1 (i*12+s')≤C∧(i<p.length→F1 1 (i*12+s')≤2+F1 1 ((i+1)*12+s'/3*3))∧∀x ∈ bq p i s',F1 1 (i*12+s')≤1+F1 1 ((i+x.2.1)*12+x.2.2))∧∃(z:Nat→Value),S=[.pointer (some ⟨B+7,0,none⟩),.int .i64 (i:Nat),.pointer (some ⟨A,0,none⟩),z 3,.pointer (some ⟨q,0,none⟩),.func (.func 72) #[] #[.pointer (some ⟨q,0,none⟩)],.int .i64 (C:Nat),z 7,z 8,z 9,z 10,z 11,z 12,.int .i64 (s:Nat),z 14,z 15,z 16,z 17]) 12 ?_ ?_ ?_ ?_
  ·exact⟨F4,cb4,hs4,hr4.stay fun _ h=>⟨h,fun t h1=>by omega⟩,aE rfl⟩
  ·rintro s S K hs12 ⟨F',cb',hs,-,z,rfl⟩
   exact⟨_,me,by simp;omega⟩
  ·rintro s S K hs12 ⟨F',cb',hs,hr,z,rfl⟩
   generalize hI:(((F1 6 i≤C∧F1 2 i≤F1 6 i∧F1 5 i≤F1 6 i)∧∀t,1≤t→t≤5→F1 4 (i*6+t)≤F1 6 i)∧∀s',s'<s→F1 1 (i*12+s')≤C∧(i<p.length→F1 1 (i*12+s')≤2+F1 1 ((i+1)*12+s'/3*3))∧∀x ∈ bq p i s',F1 1 (i*12+s')≤1+F1 1 ((i+x.2.1)*12+x.2.2))=I at hr;replace hI:False∨_:=.inr hI;have g7:=hs.ok.at_.g7;have eth:jo 1 (i*12+s)=(0,i,s,0):=by simp[jo];omega
   replace eth:False∨_:=.inr eth;(try simp only[aA])
   ((first|refine lg ?_|refine lQ rfl ?_);(try simp only[aA]))
   refine kj (J:=I∧F1 1 (i*12+s)≤C) hs hr (k:=1) (j:=i*12+s) (v:=C) (by decide) (by decide) (by rw[w1];omega) (by rw[w1];omega) (by rw[eth.resolve_left id];exact hcmd (Fx p i s 0)) (fun e h h2=>⟨h,h2⟩) (by simp(disch:=first|omega|(simp only[aD];omega))only[evB,fi,Nat.reduceAdd,Nat.reduceMul,Nat.reduceBEq,Int.reduceToNat, *];try rfl) (by simp(disch:=first|omega|(simp only[aD];omega))only[evB,fi,Nat.reduceAdd,Nat.reduceMul,Nat.reduceBEq,Int.reduceToNat, *]) (by simp(disch:=first|omega|(simp only[aD];omega))only[evB,fi,Nat.reduceAdd,Nat.reduceMul,Nat.reduceBEq,Int.reduceToNat, *];try rfl) fun K5 F5 cb5 hs5 hr5 hl5=>?_;clear hs hr g7;(try simp only[aA]);refine dq (fun S K=>∃F' cb',HS H0 lo K B (.slice ad p.length c0) p i A q cs mb F' cb'∧RS p i F1 F' cb' ((I∧F1 1 (i*12+s)≤C)∧(i<p.length→F1 1 (i*12+s)≤2+F1 1 ((i+1)*12+s/3*3)))∧∃(z:Nat→Value),S=[.pointer (some ⟨B+7,0,none⟩),.int .i64 (i:Nat),.pointer (some ⟨A,0,none⟩),z 3,.pointer (some ⟨q,0,none⟩),.func (.func 72) #[] #[.pointer (some ⟨q,0,none⟩)],.int .i64 (C:Nat),z 7,.int .i64 (s:Nat),z 9,z 10,z 11,z 12,.int .i64 (s:Nat),z 14,z 15,z 16,z 17]) ?_ ?_
   ·have g7:=hs5.ok.at_.g7
    have g1:=hs5.ok.at_.g1;have es3:((s:Nat):Int).tdiv 3=((s/3:Nat):Int):=rfl;have es4:((s/3:Nat):Int)*3=((s/3*3:Nat):Int):=rfl;refine KK (fun h=>?_) (fun h=>?_)
    ·have e:i<p.length:=by simp only[decide_eq_true_eq]at h;omega
     clear h;have b1:=hs5.ok.big 1 ((i+1)*12+s/3*3);have hoff5:F5 1 ((i+1)*12+s/3*3)=F1 1 ((i+1)*12+s/3*3):=hr5.off 1 _ (by rw[w1];omega);replace hoff5:False∨_:=.inr hoff5;have e2:(2:Int)+((F5 1 ((i+1)*12+s/3*3):Nat):Int)=((2+F5 1 ((i+1)*12+s/3*3):Nat):Int):=rfl;have hat2:At1 p (0,i,s,0) (2+F5 1 ((i+1)*12+s/3*3)):=by
      rw[hoff5.resolve_left id];have hx1:=((hup1.resolve_left id) (i+1) (by omega) (by omega)).att.tx (s/3*3) (by omega);have q1:At1 p (1,i,s/3*3,0) (1+F1 1 ((i+1)*12+s/3*3)):=hx1.step (w:=byA p i) (by simp[bK]);refine(q1.step (w:=913) ?_).of_eq (by omega);simp only[bK,List.mem_append];refine .inr (.inl ?_);rw[if_pos e];exact List.mem_singleton.2 rfl
     (try simp only[aA]);refine kj (J:=((I∧F1 1 (i*12+s)≤C)∧(i<p.length→F1 1 (i*12+s)≤2+F1 1 ((i+1)*12+s/3*3)))) hs5 hr5 (k:=1) (j:=i*12+s) (v:=2+F5 1 ((i+1)*12+s/3*3)) (by decide) (by decide) (by rw[w1];omega) (by rw[w1];omega) (by rw[eth.resolve_left id];exact hat2) (fun e h h2=>⟨h,fun _=>by rw[e]at h2;exact h2⟩) (by simp(disch:=first|omega|(simp only[aD];omega))only[evB,fi,Nat.reduceAdd,Nat.reduceMul,Nat.reduceBEq,Int.reduceToNat, *];try rfl) (by simp(disch:=first|omega|(simp only[aD];omega))only[evB,fi,Nat.reduceAdd,Nat.reduceMul,Nat.reduceBEq,Int.reduceToNat, *]) (by simp(disch:=first|omega|(simp only[aD];omega))only[evB,fi,Nat.reduceAdd,Nat.reduceMul,Nat.reduceBEq,Int.reduceToNat, *];try rfl) fun K6 F6 cb6 hs6 hr6 hl6=>?_;exact⟨F6,cb6,hs6,hr6,aE rfl⟩
    ·have e:¬ i<p.length:=by simp only[decide_eq_false_iff_not]at h;omega
     clear h;(try simp only[aA]);exact⟨F5,cb5,hs5,hr5.stay fun _ h=>⟨h,fun h=>absurd h e⟩,aE rfl⟩
   clear hs5 hr5;rintro S K ⟨F5,cb5,hs5,hr5,z,rfl⟩;obtain⟨a,har⟩:=(hs5.arc s hs12).len;have hcat:cs[s]?=some (.slice a (bq p i s).length (bq p i s).length):=by
    rcases Nat.lt_or_ge s cs.length with h|h
    ·rw[List.getD_eq_getElem?_getD,List.getElem?_eq_getElem h]at har
     rw[List.getElem?_eq_getElem h,←har];rfl
    ·rw[List.getD_eq_getElem?_getD,List.getElem?_eq_none h]at har
     exact absurd har (by intro e;cases e)
   have hlen:=(hs5.arc s hs12).1;have gA:=hs5.gA;replace har:False∨_:=.inr har;have hcl:s<cs.length:=by
    rcases Nat.lt_or_ge s cs.length with h|h
    ·exact h
    ·rw[List.getElem?_eq_none h]at hcat;cases hcat
   (try simp only[aA]);(repeat' ((first|refine lg ?_|refine lQ rfl ?_);(try simp only[aA])));clear gA hcat;refine ai (fun d S K=>∃F' cb',HS H0 lo K B (.slice ad p.length c0) p i A q cs mb F' cb'∧RS p i F1 F' cb' (((I∧F1 1 (i*12+s)≤C)∧(i<p.length→F1 1 (i*12+s)≤2+F1 1 ((i+1)*12+s/3*3)))∧∀x ∈ (bq p i s).take d,F1 1 (i*12+s)≤1+F1 1 ((i+x.2.1)*12+x.2.2))∧∃(z:Nat→Value),S=[.pointer (some ⟨B+7,0,none⟩),.int .i64 (i:Nat),.pointer (some ⟨A,0,none⟩),z 3,.pointer (some ⟨q,0,none⟩),.func (.func 72) #[] #[.pointer (some ⟨q,0,none⟩)],.int .i64 (C:Nat),z 7,.int .i64 (s:Nat),z 9,z 10,z 11,z 12,.int .i64 (s:Nat),.slice a (bq p i s).length (bq p i s).length,.int .i64 ((bq p i s).length:Nat),.int .i64 (d:Nat),z 17]) (bq p i s).length ?_ ?_ ?_ ?_
   ·exact⟨F5,cb5,hs5,hr5.stay fun _ h=>⟨h,fun x hx=>by simp at hx⟩,aE rfl⟩
   ·rintro d S K hd ⟨F',cb',hs,-,z,rfl⟩
    exact⟨_,me,by simp⟩
   ·clear hs5 hr5
    rintro d S K hd ⟨F',cb',hs,hr,z,rfl⟩;obtain⟨-,⟨h1,h2⟩|⟨bb,sp,hbA2,h3,h4,hgb⟩⟩:=hs.arc s hs12
    ·rw[h2]at hd;simp at hd
    rw[har.resolve_left id]at h3;injection h3 with h3;subst h3;obtain⟨x,hx⟩:∃x,(bq p i s)[d]=x:=⟨_,rfl⟩;have hxm:x ∈ bq p i s:=hx▸List.getElem_mem hd;obtain⟨u,v,c,dd,k,m,y,h1,hu,hv2,h3,h4',h5,h6,h7,h8,h9,h10,h11⟩:=lS hxm hs12 hi;have hxs:bq p i s≠[]:=fun e=>by rw[e]at hd;simp at hd
    have hat:=lX fH hd;rw[hx]at hat;replace hat:((cO eL (bq p i s)).drop (d*3)).take 3=[.int .i64 (x.1:Nat),.int .i64 (x.2.1:Nat),.int .i64 (x.2.2:Nat)]:=hat;have hcln:=cX fH (bq p i s);have htk:(bq p i s).take (d+1)=(bq p i s).take d++[x]:=by rw[List.take_add_one,List.getElem?_eq_getElem hd,hx];rfl
    have hx1m:i+x.2.1≤p.length:=by omega
    have hF5:∀G:FT,SameOff F1 G i→0<x.2.1→G 1 ((i+x.2.1)*12+x.2.2)=F1 1 ((i+x.2.1)*12+x.2.2):=fun G hG h0=>hG 1 _ (by rw[w1];omega);have hat0:At1 p (0,i+x.2.1,x.2.2,0) (F' 1 ((i+x.2.1)*12+x.2.2)):=by
     by_cases h0:x.2.1=0
     ·rw[h0];exact hr.att.att.tx x.2.2 h8
     ·rw[hF5 F' hr.off (by omega)]
      exact((hup1.resolve_left id) (i+x.2.1) (by omega) hx1m).att.tx x.2.2 h8
    have hat1:At1 p (0,i,s,0) (1+F' 1 ((i+x.2.1)*12+x.2.2)):=hat0.step (w:=x.1) (by
     simp only[bK,List.mem_append,List.mem_map];exact .inl ⟨x,hxm,rfl⟩)
    have b1:=hs.ok.big 1 ((i+x.2.1)*12+x.2.2);have hKl:=Heap.get_lt hgb;replace htk:False∨_:=.inr htk;clear h1 hu hv2 h3 h4' h5 h6 h7 h9 h10 h11 hx hF5 hat0;obtain⟨x1,x2,x3⟩:=x;simp only at hat h8 hx1m hat1 b1;(try simp only[aA]);(repeat' ((first|refine lg ?_|refine lQ rfl ?_);(try simp only[aA])));have hxx:=Ext.app K [some [Value.int .i64 (x1:Nat),.int .i64 (x2:Nat),.int .i64 (x3:Nat)]];have gx:Heap.get (K++[some [Value.int .i64 (x1:Nat),.int .i64 (x2:Nat),.int .i64 (x3:Nat)]]) K.length=some [.int .i64 (x1:Nat),.int .i64 (x2:Nat),.int .i64 (x3:Nat)]:=aH;have hsx:=hs.ex hxx;generalize K++[some [Value.int .i64 (x1:Nat),.int .i64 (x2:Nat),.int .i64 (x3:Nat)]]=K6 at *;have g7:=hsx.ok.at_.g7;have g1:=hsx.ok.at_.g1;clear hs hxx hgb hat hcln;(try simp only[aA]);refine kj (J:=(((I∧F1 1 (i*12+s)≤C)∧(i<p.length→F1 1 (i*12+s)≤2+F1 1 ((i+1)*12+s/3*3)))∧∀x ∈ (bq p i s).take (d+1),F1 1 (i*12+s)≤1+F1 1 ((i+x.2.1)*12+x.2.2))) hsx hr (k:=1) (j:=i*12+s) (v:=1+F' 1 ((i+x2)*12+x3)) (by decide) (by decide) (by rw[w1];omega) (by rw[w1];omega) (by rw[eth.resolve_left id];exact hat1) (fun e h h2=>⟨h.1,fun x hx=>?_⟩) (by simp(disch:=first|omega|(simp only[aD];omega))only[evB,fi,Nat.reduceAdd,Nat.reduceMul,Nat.reduceBEq,Int.reduceToNat, *];try rfl) (by simp(disch:=first|omega|(simp only[aD];omega))only[evB,fi,Nat.reduceAdd,Nat.reduceMul,Nat.reduceBEq,Int.reduceToNat, *]) (by simp(disch:=first|omega|(simp only[aD];omega))only[evB,fi,Nat.reduceAdd,Nat.reduceMul,Nat.reduceBEq,Int.reduceToNat, *];try rfl) fun K7 F7 cb7 hs7 hr7 hl7=>?_
    ·rw[htk.resolve_left id,List.mem_append]at hx
     rcases hx with hx|hx
     ·exact h.2 x hx
     ·rw[List.mem_singleton.1 hx,←e];rw[←e]at h2;exact h2
    ·(try simp only[aA])
     (repeat' ((first|refine lg ?_|refine lQ rfl ?_);(try simp only[aA])));exact⟨F7,cb7,hs7,hr7,aE rfl⟩
   ·clear hs5 hr5
    rintro S K ⟨F',cb',hs,hr,z,rfl⟩;rw[List.take_length]at hr;(try simp only[aA]);(repeat' ((first|refine lg ?_|refine lQ rfl ?_);(try simp only[aA])));refine⟨F',cb',hs,hr.stay fun _ h=>?_,aE rfl⟩;obtain⟨⟨⟨h1,h2⟩,h3⟩,h4⟩:=h;rw[←hI.resolve_left id]at h1;refine⟨h1.1,fun s' hs'=>?_⟩;by_cases e:s'=s
    ·subst e;exact⟨h2,h3,h4⟩
    ·exact h1.2 s' (by omega)
  ·clear hs4 hr4
   rintro S K ⟨F',cb',hs,hr,z,rfl⟩;(try simp only[aA]);simp only[dP];refine⟨(if cb' then qb F' i+1 else 0),?_,F',cb',hs,hoff.trans hr.off,hdec.trans hr.dec,hr.att,fun e=>?_,rfl,aE rfl⟩
   ·cases cb' with
    | true=>have:=hr.less rfl;simp;omega
    | false=>simp
   ·obtain⟨e2,⟨⟨k1,k2,k3⟩,k4⟩,k5⟩:=hr.same e
    subst e2;exact⟨by rw[hCc];exact k1,k2,k3,k4,fun s hs=>by rw[hCc];exact(k5 s hs).1,fun h s hs=>(k5 s hs).2.1 h,fun s hs=>(k5 s hs).2.2⟩
theorem CB{lo:Nat}{H:Heap}:aR lo .mkMap [] H=some (.map (some H.length),H++[some []]):=rfl
theorem pW(m:Nat):dB m (fun _=>0)=List.replicate m (.int .i64 0):=by
 refine List.ext_getElem? fun k=>?_;by_cases h:k<m
 ·rw[cU h,List.getElem?_replicate,if_pos h];rfl
 ·rw[List.getElem?_eq_none (by rw[cE];omega),List.getElem?_eq_none (by simp;omega)]
theorem mR(w n:Nat):bV (List.replicate w (.int .i64 0)) n=dB (n*w) (fun _=>0):=by
 rw[pW];unfold bV;rw[List.flatten_replicate_replicate]
theorem Ln(n:Nat):bV [.int .i64 0,.int .i64 0,.int .i64 0,.int .i64 0,.int .i64 0,.int .i64 0,.int .i64 0,.int .i64 0,.int .i64 0,.int .i64 0,.int .i64 0,.int .i64 0] n=dB (n*12) (fun _=>0):=mR 12 n
theorem zc6(n:Nat):bV [.int .i64 0,.int .i64 0,.int .i64 0,.int .i64 0,.int .i64 0,.int .i64 0] n=dB (n*6) (fun _=>0):=mR 6 n
theorem zc1(n:Nat):bV [.int .i64 0] n=dB n (fun _=>0):=by
 have:=mR 1 n;rwa [Nat.mul_one]at this
def Bd(F:FT)(j:Nat):Prop:=∀k jj,1≤k→k≤6→(k=4→jj%6≠0)→F k jj≤1073741824+16*j
theorem Bd.init{p:List UInt8}{F F':FT}{i j:Nat}(hb:Bd F j)(h:InitF p F F' i):Bd F' (j+1):=by
 intro k jj h1 h6 h4;by_cases hne:jj/wd k=i
 ·rcases(show k=1∨k=2∨k=3∨k=4∨k=5∨k=6 by omega)with rfl|rfl|rfl|rfl|rfl|rfl
  ·rw[wd1]at hne
   have:=h.tx (jj%12) (by omega);rw[show i*12+jj%12=jj by omega]at this;rw[this];split<;>omega
  ·rw[wd2,Nat.div_one]at hne;subst hne
   rw[h.sx];have:=hb 2 (jj+6) (by decide) (by decide) (by intro h;cases h);split<;>omega
  ·rw[wd3,Nat.div_one]at hne;subst hne
   have:=hb 3 (jj+6) (by decide) (by decide) (by intro h;cases h);rcases h.n0 with e|⟨-,e⟩
   ·rw[e]
    refine Nat.le_trans (Nat.min_le_left _ _) ?_;split<;>omega
   ·rw[e];omega
  ·rw[wd4]at hne
   have h4:=h4 rfl;have:=h.tl (jj%6) (by omega) (by omega);rw[show i*6+jj%6=jj by omega]at this;rw[this];split
   ·rename_i hc
    have:=hb 4 ((i+1)*6+(jj%6+1)) (by decide) (by decide) (by intro _;omega);omega
   ·omega
  ·rw[wd5,Nat.div_one]at hne;subst hne
   rcases h.du with e|⟨k,h1,h2,e⟩
   ·rw[e];omega
   ·rw[e]
    have hle:=iM p jj;have q5:=hb 5 (jj+k) (by decide) (by decide) (by intro h;cases h);have q6:=hb 6 (jj+k) (by decide) (by decide) (by intro h;cases h);simp only[gg,bC];split<;>omega
  ·rw[wd6,Nat.div_one]at hne;subst hne
   rw[h.en];split<;>omega
 ·rw[h.off k jj hne]
  have:=hb k jj h1 h6 h4;omega
theorem Bd.dec{F F':FT}{i j:Nat}(hb:Bd F j)(hs:SameOff F F' i)(hd:DecA F F' i):Bd F' j:=by
 intro k jj h1 h6 h4;by_cases hne:jj/wd k=i
 ·exact Nat.le_trans (hd k jj hne) (hb k jj h1 h6 h4)
 ·rw[hs k jj hne];exact hb k jj h1 h6 h4
structure Plan (H0:Heap)(lo:Nat)(H:Heap)(B:Nat)(pv:Value)(p:List UInt8)(F:FT):Prop where
 ok:PlanOk H0 lo H B pv p F
 att:∀i,i≤p.length→AttA p (bC F) i
 low:∀i,i≤p.length→LowA p (bC F) i
theorem kJ(n:Nat):some (fM (0::List.replicate n 0))=some (dB (n+1) (fun _=>0)):=by
 rw[pW];simp[fM,List.replicate_succ]
theorem CL{cp:FuncId→Option CF}{lo:Nat}{st:Stm}{Q:aX}{S:List Value}{H:Heap}(P:Heap→Prop)(h:∀K,P K→wpS cp lo st Q S K)(hp:P H):wpS cp lo st Q S H:=h H hp
set_option linter.defProp false in
def BY:=And.intro @Int.cast_ofNat_Int (And.intro @ite_self.{1} (And.intro @fB (And.intro @cE (And.intro @cU (And.intro @ca1 (And.intro @ca6 (And.intro @caN (And.intro @ch2 (And.intro @c5 (And.intro @c1 (And.intro @Ln (And.intro @zc6 (And.intro @zc1 @CB)))))))))))))
theorem oz{P:Prop}(h:P:=by simp(disch:=first|omega|(simp only[aD];omega))only[evB,BY,Nat.reduceAdd,Nat.reduceMul,Nat.reduceBEq,Int.reduceToNat, *];rfl):P:=h
theorem DE{cp:FuncId→Option CF}{lo:Nat}{l:List (Nat×E)}{chk:List E}{Q:aX}{S:List Value}{H:Heap}{vs:List (Nat×Value)}{S':List Value}(k:Q .normal S' H)(h:evSets S H l=some vs:=by exact oz)(hc:evChk S H chk=true:=by simp(disch:=first|omega|(simp only[aD];omega))only[evB,BY,Nat.reduceAdd,Nat.reduceMul,Nat.reduceBEq,Int.reduceToNat, *])(hS:setAll S vs=S':=by exact oz):wpS cp lo (.sets l chk) Q S H:=eF h hc hS k
theorem G8{cp:FuncId→Option CF}{lo:Nat}{l:List (Nat×E)}{chk:List E}{Q:aX}{S:List Value}{H:Heap}{vs:List (Nat×Value)}{dst:Option Nat}{o:HOp}{a:E}{xs:List Value}(k:wpH cp lo o xs H fun v H'=>Q .normal (setD (setAll S vs) dst v) H')(h:evSets S H l=some vs:=by exact oz)(hc:evChk S H chk=true:=by simp(disch:=first|omega|(simp only[aD];omega))only[evB,BY,Nat.reduceAdd,Nat.reduceMul,Nat.reduceBEq,Int.reduceToNat, *])(ha:ev S H a=some xs:=by exact oz):wpS cp lo (.hv l chk [] dst o a) Q S H:=gG h hc ha k
theorem CQ{cp:FuncId→Option CF}{lo:Nat}{l:List (Nat×E)}{chk:List E}{Q:aX}{S:List Value}{H:Heap}{vs:List (Nat×Value)}{dst:Option Nat}{o:HOp}{a:E}{xs:List Value}{S':List Value}{H':Heap}{v:Value}(hcall:o.isCall=false)(k:Q .normal S' H')(h:evSets S H l=some vs:=by exact oz)(hc:evChk S H chk=true:=by simp(disch:=first|omega|(simp only[aD];omega))only[evB,BY,Nat.reduceAdd,Nat.reduceMul,Nat.reduceBEq,Int.reduceToNat, *])(ha:ev S H a=some xs:=by exact oz)(ho:aR lo o xs H=some (v,H'):=by exact oz)(hS:setD (setAll S vs) dst v=S':=by exact oz):wpS cp lo (.hv l chk [] dst o a) Q S H:=eV hcall h hc ha ho hS k
theorem HU{cf:CF}{R:Value→Heap→Prop}{S:List Value}{H:Heap}{vs:List Value}(k:R (aP vs) H)(h:evList S H cf.res=some vs:=by exact oz):aS cf R .ret S H:=eM h k
theorem yF{lo:Nat}{H:Heap}{pv:Value}{p:List UInt8}(hlo:lo≤H.length)(hv:Sl bZ H pv p)(hp:p.length≤4096) :
  Ev cp lo 34 [pv] H (fun r H'=>∃F,r=.pointer (some ⟨H.length+7,0,none⟩)∧Plan H lo H' H.length pv p F∧H'.get H.length=some []):=by
 obtain⟨ad,c0,rfl⟩:=hv.len;refine Hg ?_;unfold CV AE;simp only[kB,aA];repeat' ((first|refine DE ?_|refine CQ rfl ?_);(try simp only[aA]))
 refine CL (fun K=>PlanOk H lo K H.length (.slice ad p.length c0) p (fun _ _=>0)∧K.get H.length=some []) (fun K hK=>?_) ?_;rotate_left
 ·have hx:=Ext.app H
  refine⟨⟨⟨?_,fun k h1 h6=>?_,hv.mono (hx _)⟩,hx _,Nat.le_refl _,hlo,hv,fun _ _=>Nat.zero_le _⟩,aH⟩
  ·rw[dH];rfl
  ·rcases(show k=1∨k=2∨k=3∨k=4∨k=5∨k=6 by omega)with rfl|rfl|rfl|rfl|rfl|rfl
   ·rw[dH];rfl
   ·rw[dH,wd2,Nat.mul_one,←kJ];rfl
   ·rw[dH,wd3,Nat.mul_one,←kJ];rfl
   ·rw[dH];rfl
   ·rw[dH,wd5,Nat.mul_one,←kJ];rfl
   ·rw[dH,wd6,Nat.mul_one,←kJ];rfl
 obtain⟨hK,hB⟩:=hK;have ecast:((p.length+1:Nat):Int)-1=((p.length:Nat):Int)-((0:Nat):Int):=by omega
 refine ai (fun j S K=>∃F,PlanOk H lo K H.length (.slice ad p.length c0) p F∧K.get H.length=some []∧Bd F j∧(∀i,i≤p.length→p.length<i+j→AttK p F i∧LowA p (bC F) i)∧∃(z:Nat→Value),S=[.slice ad p.length c0,z 1,z 2,.pointer (some ⟨H.length+7,0,none⟩),.int .i64 ((p.length:Nat)-(j:Nat):Int),z 5,z 6,z 7,z 8,z 9,z 10,z 11,z 12,z 13,z 14,z 15,z 16,z 17,z 18,z 19]) (p.length+1) ?_ ?_ ?_ ?_
 ·exact⟨_,hK,hB,fun _ _ _ _ _=>Nat.zero_le _,fun i h1 h2=>by omega,aE (by rw[←ecast];rfl)⟩
 ·rintro j S K hj ⟨F,-,-,-,-,z,rfl⟩
  exact⟨_,oz,by simp;omega⟩
 ·clear hK hB
  rintro j S K hj ⟨F,hK,hB,hbd,hal,z,rfl⟩;obtain⟨i,hi⟩:∃i,i+j=p.length:=⟨p.length-j,by omega⟩;have ei:((p.length:Nat):Int)-((j:Nat):Int)=((i:Nat):Int):=by omega
  have hil:i≤p.length:=by omega
  rw[ei];have hx1:=hK.ext.1;replace hal:False∨_:=.inr hal;replace ei:False∨_:=.inr ei;have hg7:=Heap.get_lt hK.at_.g7;(try simp only[aA]);refine G8 ?_;refine aC (xg hK hp hil (fun k jj h1 h6 h4=>by have:=hbd k jj h1 h6 h4;omega)) ?_;rintro r K2 ⟨F2,hK2,hin,hkb⟩;have hB2:K2.get H.length=some []:=(hkb.2 _ (.inl (Nat.le_refl _))).trans hB;have hup:∀i',i<i'→i'≤p.length→AttK p F i':=fun i' h1 h2=>((hal.resolve_left id) i' h2 (by omega)).1;have ha2:=yg hil hin hup;have hl2:=xj hin;(try simp only[aA]);refine G8 ?_;refine aC (C0 hK2 hB2 hp hil ha2 (fun i' h1 h2=>(hup i' h1 h2).off hin.off (by omega)) hl2) ?_;rintro r K3 ⟨F3,hK3,hB3,hoff3,hdec3,ha3,hl3⟩;have hbd3:=(hbd.init hin).dec hoff3 hdec3;have hal3:∀i',i'≤p.length→p.length<i'+(j+1)→AttK p F3 i'∧LowA p (bC F3) i':=fun i' h1 h2=>by
   by_cases e:i'=i
   ·subst e;exact⟨ha3,hl3⟩
   ·have:=(hal.resolve_left id) i' h1 (by omega)
    exact⟨(this.1.off hin.off e).off hoff3 e,(this.2.off hin.off (by omega)).off hoff3 (by omega)⟩
  replace hal3:False∨_:=.inr hal3;clear hK hK2 hin hkb hup ha2 hl2 hal hbd hB hB2 hoff3 hdec3 ha3 hl3;(try simp only[aA]);repeat' ((first|refine DE ?_|refine CQ rfl ?_);(try simp only[aA]))
  refine⟨F3,hK3,hB3,hbd3,hal3.resolve_left id,aE (by rw[show((i:Nat):Int)-1=((p.length:Nat):Int)-((j+1:Nat):Int) by omega];rfl)⟩
 ·clear hK hB
  rintro S K ⟨F,hK,hB,hbd,hal,z,rfl⟩;replace hal:False∨_:=.inr hal;(try simp only[aA]);repeat' ((first|refine DE ?_|refine CQ rfl ?_);(try simp only[aA]))
  refine HU ?_;exact⟨F,rfl,⟨hK,fun i hi=>((hal.resolve_left id) i hi (by omega)).1.att,fun i hi=>((hal.resolve_left id) i hi (by omega)).2⟩,hB⟩
def thV(t:Thr):Value:=.agg #[.int .i64 (t.1:Nat),.int .i64 (t.2.1:Nat),.int .i64 (t.2.2.1:Nat),.int .i64 (t.2.2.2:Nat)]
set_option linter.defProp false in
def bR:=And.intro @Int.cast_ofNat_Int (And.intro @ite_self.{1} (And.intro @fB (And.intro @cE (And.intro @cU (And.intro @ca1 (And.intro @ca6 (And.intro @caN (And.intro @ch2 (And.intro @c5 @c1)))))))))
theorem m7{P:Prop}(h:P:=by simp(disch:=first|omega|(simp only[aD];omega))only[evB,bR,Nat.reduceAdd,Nat.reduceMul,Nat.reduceBEq,Int.reduceToNat,Int.reduceEq, *];rfl):P:=h
theorem bS{cp:FuncId→Option CF}{lo:Nat}{l:List (Nat×E)}{chk:List E}{Q:aX}{S:List Value}{H:Heap}{vs:List (Nat×Value)}{S':List Value}(k:Q .normal S' H)(h:evSets S H l=some vs:=by exact m7)(hc:evChk S H chk=true:=by simp(disch:=first|omega|(simp only[aD];omega))only[evB,bR,Nat.reduceAdd,Nat.reduceMul,Nat.reduceBEq,Int.reduceToNat,Int.reduceEq, *])(hS:setAll S vs=S':=by exact m7):wpS cp lo (.sets l chk) Q S H:=eF h hc hS k
theorem fh{cp:FuncId→Option CF}{lo:Nat}{l:List (Nat×E)}{chk:List E}{Q:aX}{S:List Value}{H:Heap}{vs:List (Nat×Value)}{dst:Option Nat}{o:HOp}{a:E}{xs:List Value}(k:wpH cp lo o xs H fun v H'=>Q .normal (setD (setAll S vs) dst v) H')(h:evSets S H l=some vs:=by exact m7)(hc:evChk S H chk=true:=by simp(disch:=first|omega|(simp only[aD];omega))only[evB,bR,Nat.reduceAdd,Nat.reduceMul,Nat.reduceBEq,Int.reduceToNat,Int.reduceEq, *])(ha:ev S H a=some xs:=by exact m7):wpS cp lo (.hv l chk [] dst o a) Q S H:=gG h hc ha k
theorem bT{cp:FuncId→Option CF}{lo:Nat}{l:List (Nat×E)}{chk:List E}{Q:aX}{S:List Value}{H:Heap}{vs:List (Nat×Value)}{dst:Option Nat}{o:HOp}{a:E}{xs:List Value}{S':List Value}{H':Heap}{v:Value}(hcall:o.isCall=false)(k:Q .normal S' H')(h:evSets S H l=some vs:=by exact m7)(hc:evChk S H chk=true:=by simp(disch:=first|omega|(simp only[aD];omega))only[evB,bR,Nat.reduceAdd,Nat.reduceMul,Nat.reduceBEq,Int.reduceToNat,Int.reduceEq, *])(ha:ev S H a=some xs:=by exact m7)(ho:aR lo o xs H=some (v,H'):=by exact m7)(hS:setD (setAll S vs) dst v=S':=by exact m7):wpS cp lo (.hv l chk [] dst o a) Q S H:=eV hcall h hc ha ho hS k
theorem mF{cp:FuncId→Option CF}{lo:Nat}{c:E}{a b:Stm}{Q:aX}{S:List Value}{H:Heap}{t:Bool}(k1:t=true→wpS cp lo a Q S H)(k2:t=false→wpS cp lo b Q S H)(h:ev1 S H c=some (.bool t):=by exact m7):wpS cp lo (.cond c a b) Q S H:=aF h k1 k2
theorem fS{cf:CF}{R:Value→Heap→Prop}{S:List Value}{H:Heap}{vs:List Value}(k:R (aP vs) H)(h:evList S H cf.res=some vs:=by exact m7):aS cf R .ret S H:=eM h k
theorem xq{H0:Heap}{lo:Nat}{H:Heap}{B:Nat}{pv:Value}{p:List UInt8}{F:FT}{t:Thr}(hP:PlanOk H0 lo H B pv p F)(hp:p.length≤4096)(hv:VT p t) :
  Ev cp lo 35 [.pointer (some ⟨B+7,0,none⟩),thV t] H (fun r H'=>Ext H H'∧r=.int .i64 ((cst (bC F) t:Nat):Int)):=by
 obtain⟨k,i,a,b⟩:=t;have hb7:=Heap.get_lt hP.at_.g7;have hlo:=hP.lo;have hx1:=hP.ext.1;have hlow:=hP.low;have hbig:=hP.big;have hD:=iM p i;replace hbig:False∨_:=.inr hbig;unfold thV;simp only;refine L2 ?_;unfold Em xL;simp only[kB,aA];repeat' ((first|refine bS ?_|refine bT rfl ?_);(try simp only[aA]))
 have hxG:Ext H (H++[some [Value.int .i64 (k:Nat),.int .i64 (i:Nat),.int .i64 (a:Nat),.int .i64 (b:Nat)]]):=Ext.app _ _;have gs:Heap.get (H++[some [Value.int .i64 (k:Nat),.int .i64 (i:Nat),.int .i64 (a:Nat),.int .i64 (b:Nat)]]) H.length=some [.int .i64 (k:Nat),.int .i64 (i:Nat),.int .i64 (a:Nat),.int .i64 (b:Nat)]:=aH;have hPG:=hP.ex hxG;generalize H++[some [Value.int .i64 (k:Nat),.int .i64 (i:Nat),.int .i64 (a:Nat),.int .i64 (b:Nat)]]=G at *;have g7:=hPG.at_.g7;clear hP
 match k,hv with
 | 0,hv=>
  obtain⟨h1,h2,rfl⟩:=hv;have g1:=hPG.at_.g1
  (refine aF (t:=true) (by simp(disch:=first|omega|(simp only[aD];omega))only[evB,bR,Nat.reduceAdd,Nat.reduceMul,Nat.reduceBEq,Int.reduceToNat,Int.reduceEq, *];try rfl) (fun h=>?_) (fun h=>by cases h);clear h;(try simp only[aA]))
  repeat' ((first|refine bS ?_|refine bT rfl ?_);(try simp only[aA]))
  refine fS ?_;exact⟨hxG,rfl⟩
 | 1,hv=>
  obtain⟨h1,h2,rfl⟩:=hv;have g1:=hPG.at_.g1;have b1:=hbig.resolve_left id 1 ((i+1)*12+a)
  (refine aF (t:=false) (by simp(disch:=first|omega|(simp only[aD];omega))only[evB,bR,Nat.reduceAdd,Nat.reduceMul,Nat.reduceBEq,Int.reduceToNat,Int.reduceEq, *];try rfl) (fun h=>by cases h) (fun h=>?_);clear h;(try simp only[aA]))
  (refine aF (t:=true) (by simp(disch:=first|omega|(simp only[aD];omega))only[evB,bR,Nat.reduceAdd,Nat.reduceMul,Nat.reduceBEq,Int.reduceToNat,Int.reduceEq, *];try rfl) (fun h=>?_) (fun h=>by cases h);clear h;(try simp only[aA]))
  repeat' ((first|refine bS ?_|refine bT rfl ?_);(try simp only[aA]))
  refine fS ?_;exact⟨hxG,rfl⟩
 | 2,hv=>
  obtain⟨h1,h2,h3,rfl⟩:=hv;have g2:=hPG.at_.g2;have b2:=hbig.resolve_left id 2 (i+6)
  (refine aF (t:=false) (by simp(disch:=first|omega|(simp only[aD];omega))only[evB,bR,Nat.reduceAdd,Nat.reduceMul,Nat.reduceBEq,Int.reduceToNat,Int.reduceEq, *];try rfl) (fun h=>by cases h) (fun h=>?_);clear h;(try simp only[aA]))
  (refine aF (t:=false) (by simp(disch:=first|omega|(simp only[aD];omega))only[evB,bR,Nat.reduceAdd,Nat.reduceMul,Nat.reduceBEq,Int.reduceToNat,Int.reduceEq, *];try rfl) (fun h=>by cases h) (fun h=>?_);clear h;(try simp only[aA]))
  (refine aF (t:=true) (by simp(disch:=first|omega|(simp only[aD];omega))only[evB,bR,Nat.reduceAdd,Nat.reduceMul,Nat.reduceBEq,Int.reduceToNat,Int.reduceEq, *];try rfl) (fun h=>?_) (fun h=>by cases h);clear h;(try simp only[aA]))
  by_cases h0:0<a
  ·have hle:=h3 h0
   have e5:(5:Int)-((a:Nat):Int)+((F 2 (i+6):Nat):Int)=((5-a+F 2 (i+6):Nat):Int):=by omega
   have hc:cst (bC F) (2,i,a,0)=5-a+F 2 (i+6):=by simp only[cst,bC,if_pos h0]
   rw[hc];clear hc h3;refine mF (fun h=>?_) (fun h=>?_)
   ·clear h
    (try simp only[aA]);(repeat' ((first|refine bS ?_|refine bT rfl ?_);(try simp only[aA])));refine fS ?_;exact⟨hxG,rfl⟩
   ·exfalso;simp only[decide_eq_false_iff_not]at h;omega
  ·have ha:a=0:=by omega
   subst ha
   (refine aF (t:=false) (by simp(disch:=first|omega|(simp only[aD];omega))only[evB,bR,Nat.reduceAdd,Nat.reduceMul,Nat.reduceBEq,Int.reduceToNat,Int.reduceEq, *];try rfl) (fun h=>by cases h) (fun h=>?_);clear h;(try simp only[aA]))
   (repeat' ((first|refine bS ?_|refine bT rfl ?_);(try simp only[aA])));refine fS ?_;exact⟨hxG,rfl⟩
 | 3,hv=>
  obtain⟨h1,h2,h3,rfl⟩:=hv;have g3:=hPG.at_.g3;have b2:=hbig.resolve_left id 3 (i+6)
  (refine aF (t:=false) (by simp(disch:=first|omega|(simp only[aD];omega))only[evB,bR,Nat.reduceAdd,Nat.reduceMul,Nat.reduceBEq,Int.reduceToNat,Int.reduceEq, *];try rfl) (fun h=>by cases h) (fun h=>?_);clear h;(try simp only[aA]))
  (refine aF (t:=false) (by simp(disch:=first|omega|(simp only[aD];omega))only[evB,bR,Nat.reduceAdd,Nat.reduceMul,Nat.reduceBEq,Int.reduceToNat,Int.reduceEq, *];try rfl) (fun h=>by cases h) (fun h=>?_);clear h;(try simp only[aA]))
  (refine aF (t:=false) (by simp(disch:=first|omega|(simp only[aD];omega))only[evB,bR,Nat.reduceAdd,Nat.reduceMul,Nat.reduceBEq,Int.reduceToNat,Int.reduceEq, *];try rfl) (fun h=>by cases h) (fun h=>?_);clear h;(try simp only[aA]))
  (refine aF (t:=true) (by simp(disch:=first|omega|(simp only[aD];omega))only[evB,bR,Nat.reduceAdd,Nat.reduceMul,Nat.reduceBEq,Int.reduceToNat,Int.reduceEq, *];try rfl) (fun h=>?_) (fun h=>by cases h);clear h;(try simp only[aA]))
  by_cases h0:0<a
  ·have hle:=h3 h0
   have e5:(5:Int)-((a:Nat):Int)+((F 3 (i+6):Nat):Int)=((5-a+F 3 (i+6):Nat):Int):=by omega
   have hc:cst (bC F) (3,i,a,0)=5-a+F 3 (i+6):=by simp only[cst,bC,if_pos h0]
   rw[hc];clear hc h3;refine mF (fun h=>?_) (fun h=>?_)
   ·clear h
    (try simp only[aA]);(repeat' ((first|refine bS ?_|refine bT rfl ?_);(try simp only[aA])));refine fS ?_;exact⟨hxG,rfl⟩
   ·exfalso;simp only[decide_eq_false_iff_not]at h;omega
  ·have ha:a=0:=by omega
   subst ha
   (refine aF (t:=false) (by simp(disch:=first|omega|(simp only[aD];omega))only[evB,bR,Nat.reduceAdd,Nat.reduceMul,Nat.reduceBEq,Int.reduceToNat,Int.reduceEq, *];try rfl) (fun h=>by cases h) (fun h=>?_);clear h;(try simp only[aA]))
   (repeat' ((first|refine bS ?_|refine bT rfl ?_);(try simp only[aA])));refine fS ?_;exact⟨hxG,rfl⟩
 | 4,hv=>
  obtain⟨h1,h2,h3,rfl⟩:=hv;have g4:=hPG.at_.g4
  (refine aF (t:=false) (by simp(disch:=first|omega|(simp only[aD];omega))only[evB,bR,Nat.reduceAdd,Nat.reduceMul,Nat.reduceBEq,Int.reduceToNat,Int.reduceEq, *];try rfl) (fun h=>by cases h) (fun h=>?_);clear h;(try simp only[aA]))
  (refine aF (t:=false) (by simp(disch:=first|omega|(simp only[aD];omega))only[evB,bR,Nat.reduceAdd,Nat.reduceMul,Nat.reduceBEq,Int.reduceToNat,Int.reduceEq, *];try rfl) (fun h=>by cases h) (fun h=>?_);clear h;(try simp only[aA]))
  (refine aF (t:=false) (by simp(disch:=first|omega|(simp only[aD];omega))only[evB,bR,Nat.reduceAdd,Nat.reduceMul,Nat.reduceBEq,Int.reduceToNat,Int.reduceEq, *];try rfl) (fun h=>by cases h) (fun h=>?_);clear h;(try simp only[aA]))
  (refine aF (t:=false) (by simp(disch:=first|omega|(simp only[aD];omega))only[evB,bR,Nat.reduceAdd,Nat.reduceMul,Nat.reduceBEq,Int.reduceToNat,Int.reduceEq, *];try rfl) (fun h=>by cases h) (fun h=>?_);clear h;(try simp only[aA]))
  (refine aF (t:=true) (by simp(disch:=first|omega|(simp only[aD];omega))only[evB,bR,Nat.reduceAdd,Nat.reduceMul,Nat.reduceBEq,Int.reduceToNat,Int.reduceEq, *];try rfl) (fun h=>?_) (fun h=>by cases h);clear h;(try simp only[aA]))
  repeat' ((first|refine bS ?_|refine bT rfl ?_);(try simp only[aA]))
  refine fS ?_;exact⟨hxG,rfl⟩
 | 5,hv=>
  obtain⟨h1,h2,h3,h4⟩:=hv;have g5:=hPG.at_.g5;have g6:=hPG.at_.g6
  (refine aF (t:=false) (by simp(disch:=first|omega|(simp only[aD];omega))only[evB,bR,Nat.reduceAdd,Nat.reduceMul,Nat.reduceBEq,Int.reduceToNat,Int.reduceEq, *];try rfl) (fun h=>by cases h) (fun h=>?_);clear h;(try simp only[aA]))
  (refine aF (t:=false) (by simp(disch:=first|omega|(simp only[aD];omega))only[evB,bR,Nat.reduceAdd,Nat.reduceMul,Nat.reduceBEq,Int.reduceToNat,Int.reduceEq, *];try rfl) (fun h=>by cases h) (fun h=>?_);clear h;(try simp only[aA]))
  (refine aF (t:=false) (by simp(disch:=first|omega|(simp only[aD];omega))only[evB,bR,Nat.reduceAdd,Nat.reduceMul,Nat.reduceBEq,Int.reduceToNat,Int.reduceEq, *];try rfl) (fun h=>by cases h) (fun h=>?_);clear h;(try simp only[aA]))
  (refine aF (t:=false) (by simp(disch:=first|omega|(simp only[aD];omega))only[evB,bR,Nat.reduceAdd,Nat.reduceMul,Nat.reduceBEq,Int.reduceToNat,Int.reduceEq, *];try rfl) (fun h=>by cases h) (fun h=>?_);clear h;(try simp only[aA]))
  (refine aF (t:=false) (by simp(disch:=first|omega|(simp only[aD];omega))only[evB,bR,Nat.reduceAdd,Nat.reduceMul,Nat.reduceBEq,Int.reduceToNat,Int.reduceEq, *];try rfl) (fun h=>by cases h) (fun h=>?_);clear h;(try simp only[aA]))
  (refine aF (t:=true) (by simp(disch:=first|omega|(simp only[aD];omega))only[evB,bR,Nat.reduceAdd,Nat.reduceMul,Nat.reduceBEq,Int.reduceToNat,Int.reduceEq, *];try rfl) (fun h=>?_) (fun h=>by cases h);clear h;(try simp only[aA]))
  have b5:=hbig.resolve_left id 5 (i+a);have b6:=hbig.resolve_left id 6 (i+a);by_cases h44:a=44
  ·subst h44
   have h4:=h4 (by omega);have e5:(15:Int)-((b:Nat):Int)+((F 5 (i+44):Nat):Int)=((15-b+F 5 (i+44):Nat):Int):=by omega
   have ei:((i:Nat):Int)+44=((i+44:Nat):Int):=rfl;have hc:cst (bC F) (5,i,44,b)=15-b+F 5 (i+44):=by simp only[cst,bC,if_true]
   rw[hc];clear hc h3
   (refine aF (t:=true) (by simp(disch:=first|omega|(simp only[aD];omega))only[evB,bR,Nat.reduceAdd,Nat.reduceMul,Nat.reduceBEq,Int.reduceToNat,Int.reduceEq, *];try rfl) (fun h=>?_) (fun h=>by cases h);clear h;(try simp only[aA]))
   (repeat' ((first|refine bS ?_|refine bT rfl ?_);(try simp only[aA])));refine fS ?_;exact⟨hxG,rfl⟩
  ·refine mF (fun h=>?_) (fun h=>?_)
   ·exfalso;simp only[decide_eq_true_eq]at h;omega
   clear h;(try simp only[aA]);by_cases h0:0<a
   ·have h4:=h4 h0
    have e3:((a:Nat):Int).tdiv 3=((a/3:Nat):Int):=rfl;have e5:((a/3+1:Nat):Int)-((b:Nat):Int)+((F 6 (i+a):Nat):Int)=((a/3+1-b+F 6 (i+a):Nat):Int):=by omega
    have hc:cst (bC F) (5,i,a,b)=a/3+1-b+F 6 (i+a):=by simp only[cst,bC,if_neg h44,if_pos h0]
    rw[hc];clear hc h3;refine mF (fun h=>?_) (fun h=>?_)
    ·clear h
     (try simp only[aA]);(repeat' ((first|refine bS ?_|refine bT rfl ?_);(try simp only[aA])));refine fS ?_;exact⟨hxG,rfl⟩
    ·exfalso;simp only[decide_eq_false_iff_not]at h;omega
   ·have ha:a=0:=by omega
    subst ha
    (refine aF (t:=false) (by simp(disch:=first|omega|(simp only[aD];omega))only[evB,bR,Nat.reduceAdd,Nat.reduceMul,Nat.reduceBEq,Int.reduceToNat,Int.reduceEq, *];try rfl) (fun h=>by cases h) (fun h=>?_);clear h;(try simp only[aA]))
    (repeat' ((first|refine bS ?_|refine bT rfl ?_);(try simp only[aA])));refine fS ?_;exact⟨hxG,rfl⟩
 | 6,hv=>
  obtain⟨h1,rfl,rfl⟩:=hv;have g6:=hPG.at_.g6
  (refine aF (t:=false) (by simp(disch:=first|omega|(simp only[aD];omega))only[evB,bR,Nat.reduceAdd,Nat.reduceMul,Nat.reduceBEq,Int.reduceToNat,Int.reduceEq, *];try rfl) (fun h=>by cases h) (fun h=>?_);clear h;(try simp only[aA]))
  (refine aF (t:=false) (by simp(disch:=first|omega|(simp only[aD];omega))only[evB,bR,Nat.reduceAdd,Nat.reduceMul,Nat.reduceBEq,Int.reduceToNat,Int.reduceEq, *];try rfl) (fun h=>by cases h) (fun h=>?_);clear h;(try simp only[aA]))
  (refine aF (t:=false) (by simp(disch:=first|omega|(simp only[aD];omega))only[evB,bR,Nat.reduceAdd,Nat.reduceMul,Nat.reduceBEq,Int.reduceToNat,Int.reduceEq, *];try rfl) (fun h=>by cases h) (fun h=>?_);clear h;(try simp only[aA]))
  (refine aF (t:=false) (by simp(disch:=first|omega|(simp only[aD];omega))only[evB,bR,Nat.reduceAdd,Nat.reduceMul,Nat.reduceBEq,Int.reduceToNat,Int.reduceEq, *];try rfl) (fun h=>by cases h) (fun h=>?_);clear h;(try simp only[aA]))
  (refine aF (t:=false) (by simp(disch:=first|omega|(simp only[aD];omega))only[evB,bR,Nat.reduceAdd,Nat.reduceMul,Nat.reduceBEq,Int.reduceToNat,Int.reduceEq, *];try rfl) (fun h=>by cases h) (fun h=>?_);clear h;(try simp only[aA]))
  (refine aF (t:=false) (by simp(disch:=first|omega|(simp only[aD];omega))only[evB,bR,Nat.reduceAdd,Nat.reduceMul,Nat.reduceBEq,Int.reduceToNat,Int.reduceEq, *];try rfl) (fun h=>by cases h) (fun h=>?_);clear h;(try simp only[aA]))
  repeat' ((first|refine bS ?_|refine bT rfl ?_);(try simp only[aA]))
  refine fS ?_;exact⟨hxG,rfl⟩
theorem uH{lo:Nat}{H:Heap}{i a b:Nat}(hlo:lo≤H.length)(hi:i≤5000)(ha:a≤44)(hb:b≤15) :
  Ev cp lo 92 [.int .i64 (i:Nat),.int .i64 (a:Nat),.int .i64 (b:Nat)] H (fun r H'=>Ext H H'∧r=thV (cT i a b)):=by
 have e3:((a:Nat):Int).tdiv 3=((a/3:Nat):Int):=rfl;unfold thV;refine IL ?_;unfold E4 zT;simp only[kB,aA];repeat' ((first|refine bS ?_|refine bT rfl ?_);(try simp only[aA]))
 refine mF (fun h=>?_) (fun h=>?_)
 ·have e:b<a/3+1:=by simp only[decide_eq_true_eq]at h;omega
  clear h;have hc:cT i a b=(5,i,a,b):=by unfold cT;rw[if_pos e]
  rw[hc];clear hc e;(try simp only[aA]);repeat' ((first|refine bS ?_|refine bT rfl ?_);(try simp only[aA]))
  refine fS ?_;exact⟨Ext.app _ _,rfl⟩
 ·have e:¬ b<a/3+1:=by simp only[decide_eq_false_iff_not]at h;omega
  clear h;(try simp only[aA]);refine mF (fun h=>?_) (fun h=>?_)
  ·have e4:a=44:=by simp only[decide_eq_true_eq]at h;omega
   clear h;have hc:cT i a b=(5,i+a,0,0):=by unfold cT;rw[if_neg e,if_pos e4]
   rw[hc];clear hc e e4;(try simp only[aA]);(repeat' ((first|refine bS ?_|refine bT rfl ?_);(try simp only[aA])));refine fS ?_;exact⟨Ext.app _ _,rfl⟩
  ·have e4:¬ a=44:=by simp only[decide_eq_false_iff_not]at h;omega
   clear h;have hc:cT i a b=(6,i+a,0,0):=by unfold cT;rw[if_neg e,if_neg e4]
   rw[hc];clear hc e e4;(try simp only[aA]);(repeat' ((first|refine bS ?_|refine bT rfl ?_);(try simp only[aA])));refine fS ?_;exact⟨Ext.app _ _,rfl⟩
def dV(x:Nat×Thr):List Value:=[.int .i64 (x.1:Nat),.int .i64 (x.2.1:Nat),.int .i64 (x.2.2.1:Nat),.int .i64 (x.2.2.2.1:Nat),.int .i64 (x.2.2.2.2:Nat)]
theorem eA(x:Nat×Thr):(dV x).length=5:=rfl
theorem gp{lo:Nat}{H:Heap}{i:Nat}(hlo:lo≤H.length)(hi:i≤5000) :
  Ev cp lo 73 [.int .i64 (i:Nat)] H (fun r H'=>Ext H H'∧∃b,H.length≤b∧r=.slice (some ⟨b,0,none⟩) 4 4∧H'.get b=some (cO dV (dE i))):=by
 refine Ib ?_;unfold EP yk;simp only[kB,aA];repeat' ((first|refine bS ?_|refine bT rfl ?_);(try simp only[aA]))
 refine fS ?_;refine⟨Ext.app _ _,_,Nat.le_refl _,rfl,?_⟩;rw[aH];rfl
end Go.Proofs.YtgpolmomghejoaaDoor
