/- Lemmas. -/
import Derived.Test.YtgpolmomghejoaaDoorE18
import Derived.Test.YtgpolmomghejoaaDoorE25
import Derived.Test.YtgpolmomghejoaaDoorRows
import Derived.Test.YtgpolmomghejoaaDoorTie
import Derived.Test.YtgpolmomghejoaaDoorCards
import Derived.Lay
set_option linter.unusedVariables false
set_option linter.unusedSimpArgs false
set_option linter.unusedSectionVars false
namespace Go.Proofs.YtgpolmomghejoaaDoor
open Go.Abs
set_option maxRecDepth 20000
theorem si{lo:Nat}{H:Heap}{v w:Value}{l m:List Nat}(hlo:lo≤H.length)(hbig:l.length≤100000)(hl:SlN H v l)(hm:SlN H w m) :
  Ev cp lo 17 [v,w] H (fun r H'=>H'=H∧r=.bool (decide (l=m))):=by
 have hl0:=hl;have hm0:=hm;obtain⟨ad,c0,rfl⟩:=hl.len;obtain⟨ae,c1,rfl⟩:=hm.len;refine LP ?_;unfold D6 yi;simp only[kB,aA];repeat' ((first|refine aJ ?_|refine aK rfl ?_);(try simp only[aA]))
 refine bJ (fun h=>?_) (fun h=>?_)
 ·have hne:l≠m:=by
   grind
  clear h;(try simp only[aA]);repeat' ((first|refine aJ ?_|refine aK rfl ?_);(try simp only[aA]))
  refine bu ?_
  grind[aP]
 have hle:l.length=m.length:=by
  grind
 have hle2:l.length≤m.length∧m.length≤l.length:=by omega
 have hiff:=BC hle;clear h hle;(try simp only[aA]);repeat' ((first|refine aJ ?_|refine aK rfl ?_);(try simp only[aA]))
 refine ai (fun i S H'=>H=H'∧(∀j,j<i→l.getD j 0=m.getD j 0)∧∃(z:Nat→Value),S=[.slice ad l.length c0,.slice ae m.length c1,z 2,.int .i64 (i:Nat)]) l.length ?_ ?_ ?_ ?_
 ·exact⟨rfl,fun j hj=>by omega,aE rfl⟩
 ·rintro i S H' hi ⟨rfl,-,z,rfl⟩
  exact⟨_,bp,by simp⟩
 ·rintro i S H' hi ⟨rfl,hall,z,rfl⟩
  obtain⟨b0,o0,sp0,cap0,xs0,e0,hg0,hx0,hle0⟩:=hl.els 0 (by omega);cases e0;obtain⟨b1,o1,sp1,cap1,xs1,e1,hg1,hx1,hle1⟩:=hm.els 0 (by omega);cases e1;have hxa:=hx0 i hi;have hxb:=hx1 i (by omega);have hi2:i<m.length:=by omega
  (try simp only[aA]);repeat' ((first|refine aJ ?_|refine aK rfl ?_);(try simp only[aA]))
  refine bJ (fun h=>?_) (fun h=>?_)
  ·have hne:l≠m:=by
    grind
   clear h hiff;(try simp only[aA]);(repeat' ((first|refine aJ ?_|refine aK rfl ?_);(try simp only[aA])));refine bu ?_
   grind[aP]
  ·(try simp only[aA])
   repeat' ((first|refine aJ ?_|refine aK rfl ?_);(try simp only[aA]))
   grind
 ·rintro S H' ⟨rfl,hall,z,rfl⟩
  (try simp only[aA]);repeat' ((first|refine aJ ?_|refine aK rfl ?_);(try simp only[aA]))
  refine bu ?_
  grind[aP]
def wC(p:List UInt8):Thr→Bool
 | (0,i,_,_)=>i==p.length
 | (2,i,a,_)=>i==p.length&&a==0
 | (4,i,_,_)=>i==p.length
 | (5,i,a,_)=>i==p.length&&a==0
 | (6,i,_,_)=>i==p.length
 | _=>false
theorem vG{p:List UInt8}{t:Thr}:nb p t↔wC p t=true:=by
 unfold nb wC
 grind
def exP:List UInt8:=[65,66,97]
def st0:Thr:=(0,0,0,0)
theorem yy:((!wC exP st0)&&((bK exP st0).all fun x=>!wC exP x.2&&((bK exP x.2).all fun y=>!wC exP y.2 || (decide (1<x.1) || (x.1==1&&decide (810≤y.1))))))=true:=by kernel_rfl
theorem zq:((bK exP st0).any fun x=>x.1==1&&((bK exP x.2).any fun y=>y.1==810&&wC exP y.2))=true:=by kernel_rfl
theorem uD:BestIn (Acc exP st0) [1,810]:=by
 have h:=yy;simp only[Bool.and_eq_true,List.all_eq_true]at h;obtain⟨h0,h1⟩:=h;refine⟨?_,fun w hw=>?_⟩
 ·have h:=zq
  simp only[List.any_eq_true,Bool.and_eq_true]at h;obtain⟨x,hx,hx1,y,hy,hy1,hf⟩:=h;exact⟨x.2,by grind,y.2,by grind,vG.2 hf⟩
 ·match w,hw with
  | [],hw=>rw[vG.1 hw]at h0;cases h0
  | [x],⟨t,hm,hf⟩=>have:=(h1 _ hm).1;rw[vG.1 hf]at this;cases this
  | [x,y],⟨t,hm,u,hm2,hf⟩=>
   refine .inr ⟨rfl,?_⟩;have h2:=(h1 _ hm).2 _ hm2;simp only[vG.1 hf,Bool.not_true,Bool.false_or,Bool.or_eq_true,Bool.and_eq_true,decide_eq_true_eq,beq_iff_eq]at h2;rcases h2 with h2|⟨h2,h3⟩
   ·exact .inr (.inl h2)
   ·by_cases e:y=810
    ·simp_all
    ·exact .inr (.inr ⟨h2.symm,.inl (by omega)⟩)
  | x::y::z::w,hw=>simp_all
theorem sK:∀i,dgA exP i=0:=by
 intro i;by_cases h:i<3
 ·have:((List.range 3).all fun i=>dgA exP i==0)=true:=by kernel_rfl
  simp_all
 simp_all[dgA,List.drop_eq_nil_of_le,exP]
theorem qO{H:Heap}{v:Value}{l:List UInt8}(h:Sl bZ H v l):aG .b2s [v] H=some (bh l):=by
 rcases h with ⟨rfl,rfl⟩|⟨b,o,sp,cap,xs,rfl,h2,h3,h4,h5,h6⟩
 ·rfl
 grind[aG,cells_get,m0]
theorem qy{lo:Nat}{H:Heap}{v:Value}{l:List Int}{s:List UInt8}(hlo:lo≤H.length)(hl:SlI H v l)(ht:H.get 0=some gQ)(hs:s.length≤100000) :
  Ev cpx lo 23 [v,bh s] H (fun r H'=>Ext H H'∧r=.bool (decide ((sb l).1=s∧(sb l).2=0))):=by
 refine IG ?_;unfold CJ yK;simp only[kB,aA];repeat' ((first|refine aJ ?_|refine aK rfl ?_);(try simp only[aA]))
 refine gV ?_;refine aC (Ao hlo hl ht) ?_;rintro r K ⟨hx,u,rfl,hu⟩;have hb:=qO hu;(try simp only[aA]);repeat' ((first|refine aJ ?_|refine aK rfl ?_);(try simp only[aA]))
 refine bu ?_
 grind[aP,Value.bool.injEq]
theorem Et{lo b o n c:Nat}{H:Heap}(h:lo≤b):aR lo .frz [.slice (some ⟨b,o,none⟩) n c] H=(match H.get b with|some _=>some (.slice (some ⟨b,o,none⟩) n c,H)|none=>none):=by
 grind[aR,hsem,kx]
def exD:List UInt8:=[48,48,48,50,49,51,50,57,56,49,55,52,48,48,48]
theorem E7:gK exD=([1,624,434,632,282,200],0):=by
 have h1:exD.all bg=true:=by kernel_rfl
 have h2:iS exD=[1,624,434,632,282,200]:=by
  rw[gO (by simp[exD])];have e1:exD.take 44=exD:=rfl;have e2:exD.drop 44=[]:=rfl;rw[e1,e2,eJ,List.append_nil];unfold dw;have e3:aY 10 (1::dgt exD)=aY 900 [1,624,434,632,282,200]:=by kernel_rfl
  rw[e3];exact qP (by decide) (by decide)
 unfold gK;rw[if_neg (by decide),if_pos h1,h2]
theorem A7:sJ [112]=([49,50],0):=by
 have h1:dw [49,50]=[112]:=by
  unfold dw;have e3:aY 10 (1::dgt [49,50])=aY 900 [112]:=by kernel_rfl
  grind[qP]
 have h2:e9 [112]=some [49,50]:=by
  have:=wa (l:=[49,50]) (r:=[]) (by decide) (by decide) (by decide) (.inl rfl)
  grind[mO]
 unfold sJ;rw[if_neg (by decide),if_pos (by kernel_rfl)]
 simp_all
theorem A2:sb [924,387,700,208,213,302]=([231,101,11,97,205,2],0):=by kernel_rfl
theorem BL:sb [901,65]=([65],0):=by kernel_rfl
set_option linter.defProp false in
def r8:=And.intro @Int.cast_ofNat_Int (And.intro @ite_self.{1} (And.intro @fB (And.intro @kD (And.intro @dO (And.intro @qp (And.intro @oQ (And.intro @dK (And.intro @ll (And.intro @lr (And.intro @n8 (And.intro @nY (And.intro @qo @Et))))))))))))
theorem lf{P:Prop}(h:P:=by simp(disch:=first|omega|(simp only[aD];omega))only[evB,r8,Nat.reduceAdd,Nat.reduceMul,Nat.reduceBEq,Int.reduceToNat,Int.reduceEq,Int.reduceNe, *];rfl):P:=h
theorem tn{cp:FuncId→Option CF}{lo:Nat}{l:List (Nat×E)}{chk:List E}{Q:aX}{S:List Value}{H:Heap}{vs:List (Nat×Value)}{S':List Value}(k:Q .normal S' H)(h:evSets S H l=some vs:=by exact lf)(hc:evChk S H chk=true:=by simp(disch:=first|omega|(simp only[aD];omega))only[evB,r8,Nat.reduceAdd,Nat.reduceMul,Nat.reduceBEq,Int.reduceToNat,Int.reduceEq,Int.reduceNe, *])(hS:setAll S vs=S':=by exact lf):wpS cp lo (.sets l chk) Q S H:=eF h hc hS k
theorem yb{cp:FuncId→Option CF}{lo:Nat}{l:List (Nat×E)}{chk:List E}{Q:aX}{S:List Value}{H:Heap}{vs:List (Nat×Value)}{dst:Option Nat}{o:HOp}{a:E}{xs:List Value}(k:wpH cp lo o xs H fun v H'=>Q .normal (setD (setAll S vs) dst v) H')(h:evSets S H l=some vs:=by exact lf)(hc:evChk S H chk=true:=by simp(disch:=first|omega|(simp only[aD];omega))only[evB,r8,Nat.reduceAdd,Nat.reduceMul,Nat.reduceBEq,Int.reduceToNat,Int.reduceEq,Int.reduceNe, *])(ha:ev S H a=some xs:=by exact lf):wpS cp lo (.hv l chk [] dst o a) Q S H:=gG h hc ha k
theorem tN{cp:FuncId→Option CF}{lo:Nat}{l:List (Nat×E)}{chk:List E}{Q:aX}{S:List Value}{H:Heap}{vs:List (Nat×Value)}{dst:Option Nat}{o:HOp}{a:E}{xs:List Value}{S':List Value}{H':Heap}{v:Value}(hcall:o.isCall=false)(k:Q .normal S' H')(h:evSets S H l=some vs:=by exact lf)(hc:evChk S H chk=true:=by simp(disch:=first|omega|(simp only[aD];omega))only[evB,r8,Nat.reduceAdd,Nat.reduceMul,Nat.reduceBEq,Int.reduceToNat,Int.reduceEq,Int.reduceNe, *])(ha:ev S H a=some xs:=by exact lf)(ho:aR lo o xs H=some (v,H'):=by exact lf)(hS:setD (setAll S vs) dst v=S':=by exact lf):wpS cp lo (.hv l chk [] dst o a) Q S H:=eV hcall h hc ha ho hS k
theorem AK{cp:FuncId→Option CF}{lo:Nat}{l:List (Nat×E)}{chk:List E}{Q:aX}{S:List Value}{H:Heap}{vs:List (Nat×Value)}{dst:Option Nat}{o:HOp}{a:E}{xs:List Value}{pc:PC}(k:wpH cp lo o xs H fun v H'=>Q .normal (setD (setAll S vs) dst v) H')(h:evSets S H l=some vs:=by exact lf)(hc:evChk S H chk=true:=by simp(disch:=first|omega|(simp only[aD];omega))only[evB,r8,Nat.reduceAdd,Nat.reduceMul,Nat.reduceBEq,Int.reduceToNat,Int.reduceEq,Int.reduceNe, *])(hp:holds S H pc=some true:=by simp(disch:=first|omega|(simp only[aD];omega))only[evB,r8,Nat.reduceAdd,Nat.reduceMul,Nat.reduceBEq,Int.reduceToNat,Int.reduceEq,Int.reduceNe, *];try rfl)(ha:ev S H a=some xs:=by exact lf):wpS cp lo (.hv l chk pc dst o a) Q S H:=ta h hc hp ha k
theorem xD{cp:FuncId→Option CF}{lo:Nat}{l:List (Nat×E)}{chk:List E}{Q:aX}{S:List Value}{H:Heap}{vs:List (Nat×Value)}{dst:Option Nat}{o:HOp}{a:E}{xs:List Value}{pc:PC}{S':List Value}{H':Heap}{v:Value}(hcall:o.isCall=false)(k:Q .normal S' H')(h:evSets S H l=some vs:=by exact lf)(hc:evChk S H chk=true:=by simp(disch:=first|omega|(simp only[aD];omega))only[evB,r8,Nat.reduceAdd,Nat.reduceMul,Nat.reduceBEq,Int.reduceToNat,Int.reduceEq,Int.reduceNe, *])(hp:holds S H pc=some true:=by simp(disch:=first|omega|(simp only[aD];omega))only[evB,r8,Nat.reduceAdd,Nat.reduceMul,Nat.reduceBEq,Int.reduceToNat,Int.reduceEq,Int.reduceNe, *];try rfl)(ha:ev S H a=some xs:=by exact lf)(ho:aR lo o xs H=some (v,H'):=by exact lf)(hS:setD (setAll S vs) dst v=S':=by exact lf):wpS cp lo (.hv l chk pc dst o a) Q S H:=DN hcall h hc hp ha ho hS k
theorem sE{lo:Nat}{H:Heap}(hlo:lo≤H.length)(ht:H.get 0=some gQ) :
  Ev cpx lo 12 [] H (fun r H'=>Ext H H'∧r=.bool true):=by
 have hN:=zM (lo:=lo) (H:=H) (l:=exD) hlo (by simp[exD]);rw[E7]at hN;refine Iy ?_;unfold Ei y7;simp only[kB,aA];repeat' ((first|refine tn ?_|refine tN rfl ?_);(try simp only[aA]))
 refine yb ?_;refine aC (hN.sub fN) ?_;rintro r K1 ⟨hx1,u1,rfl,hu1⟩;have ht1:=hx1.get ht;have hl1:=hx1.1;have hF:Ev cpx lo 15 [.slice (some ⟨K1.length,0,none⟩) 1 1] (K1++[some [.int .i64 112]]) (fun r H'=>Ext (K1++[some [.int .i64 112]]) H'∧r=.tuple #[bh [49,50],.int .i64 0]):=by
  have:=GR (lo:=lo) (H:=K1++[some [.int .i64 112]]) (v:=.slice (some ⟨K1.length,0,none⟩) 1 1) (l:=[112]) (by simp;omega) (.inr ⟨K1.length,0,none,1,_,rfl,aH,rfl,by simp,.inl rfl,by simp⟩) ((Ext.app K1 _).get ht1)
  grind[A7]
 clear hN;(try simp only[aA]);repeat' ((first|refine tn ?_|refine tN rfl ?_);(try simp only[aA]))
 refine yb ?_;refine aC hF ?_;clear hF;rintro r K2 ⟨hx2,rfl⟩;have hx12:=(hx1.trans (Ext.app K1 _)).trans hx2;have hu2:=(hu1.mono (Ext.app K1 _)).mono hx2;have ht2:=hx12.get ht;have hl2:=hx12.1;clear hu1 hx2 hx1 ht1 hl1;have hE:=qL (lo:=lo) (p:=exP) (H:=K2++[some [.int .u8 65,.int .u8 66,.int .u8 97]]) (v:=.slice (some ⟨K2.length,0,none⟩) 3 3) (fun {H0 lo B pv F}=>ym sK (by simp[exP])) (by simp;omega) (.inr ⟨K2.length,0,none,3,_,rfl,aH,rfl,by simp[exP],.inl rfl,by simp[exP]⟩) (by simp[exP]);(try simp only[aA]);repeat' ((first|refine tn ?_|refine tN rfl ?_);(try simp only[aA]))
 refine yb ?_;refine aC (hE.sub fN) ?_;clear hE;rintro r K3 ⟨hx3,u3,ws,T,rfl,hu3,-,-,-,hb⟩;have hws:=hb.uniq uD;subst hws;have hx13:=(hx12.trans (Ext.app K2 _)).trans hx3;have hu23:=(hu2.mono (Ext.app K2 _)).mono hx3;have ht3:=hx13.get ht;have hl3:=hx13.1;clear hu2 hx3 hx12 ht2 hl2 hb;have hL:=uS (lo:=lo) (p:=exP) (H:=K3++[some [.int .u8 65,.int .u8 66,.int .u8 97]]) (v:=.slice (some ⟨K3.length,0,none⟩) 3 3) (fun {H0 lo B pv F}=>ym sK (by simp[exP])) (by simp;omega) (.inr ⟨K3.length,0,none,3,_,rfl,aH,rfl,by simp[exP],.inl rfl,by simp[exP]⟩) (by simp[exP]);(try simp only[aA]);repeat' ((first|refine tn ?_|refine tN rfl ?_);(try simp only[aA]))
 refine yb ?_;refine aC (hL.sub fN) ?_;clear hL;rintro r K4 ⟨hx4,ws,T,rfl,-,-,-,hb⟩;have hws:=hb.uniq uD;subst hws;have hx14:=(hx13.trans (Ext.app K3 _)).trans hx4;have hu34:=(hu3.mono (Ext.app K3 _)).mono hx4;have hu24:=(hu23.mono (Ext.app K3 _)).mono hx4;have ht4:=hx14.get ht;have hl4:=hx14.1;clear hu3 hu23 hx4 hx13 ht3 hl3 hb;(try simp only[aA]);repeat' ((first|refine tn ?_|refine tN rfl ?_);(try simp only[aA]))
 have e12:∀G:Heap,aG (.bin .neq) [bh [49,50],.string ⟨#[49,50]⟩] G=some (.bool false):=fun G=>oQ G [49,50] [49,50];have ez:decide ((0:Int)≠0)=false:=rfl;have ez2:decide ((2:Int)≠2)=false:=rfl
 (refine xD rfl ?_;(try simp only[aA]))
 have hq1:=si (lo:=lo) (H:=K4++[some [.int .i64 1,.int .i64 810]]) (v:=u3) (w:=.slice (some ⟨K4.length,0,none⟩) 2 2) (l:=[1,810]) (m:=[1,810]) (by simp;omega) (by simp) (hu34.mono (Ext.app K4 _)) (.inr ⟨K4.length,0,none,2,_,rfl,aH,rfl,by simp,.inl rfl,by simp⟩);rw[show decide (([1,810]:List Nat)=[1,810])=true from rfl]at hq1;have hu5:=hu24.mono (Ext.app K4 [some [.int .i64 1,.int .i64 810]]);have hx5:=hx14.trans (Ext.app K4 [some [.int .i64 1,.int .i64 810]]);have hl5:lo≤(K4++[some [Value.int .i64 1,.int .i64 810]]).length:=by simp;omega
 generalize K4++[some [Value.int .i64 1,.int .i64 810]]=K5 at *;clear hu34 hu24 hx14 ht4;refine AK ?_;refine aC (hq1.sub fN) ?_;clear hq1;rintro r K6 ⟨rfl,rfl⟩;(try simp only[aA])
 (refine xD rfl ?_;(try simp only[aA]))
 have hq2:=si (lo:=lo) (H:=K6++[some [.int .i64 1,.int .i64 624,.int .i64 434,.int .i64 632,.int .i64 282,.int .i64 200]]) (v:=u1) (w:=.slice (some ⟨K6.length,0,none⟩) 6 6) (l:=[1,624,434,632,282,200]) (m:=[1,624,434,632,282,200]) (by simp;omega) (by simp) (hu5.mono (Ext.app K6 _)) (.inr ⟨K6.length,0,none,6,_,rfl,aH,rfl,by simp,.inl rfl,by simp⟩);rw[show decide (([1,624,434,632,282,200]:List Nat)=[1,624,434,632,282,200])=true from rfl]at hq2;have hx7:=hx5.trans (Ext.app K6 [some [.int .i64 1,.int .i64 624,.int .i64 434,.int .i64 632,.int .i64 282,.int .i64 200]]);have hl7:lo≤(K6++[some [Value.int .i64 1,.int .i64 624,.int .i64 434,.int .i64 632,.int .i64 282,.int .i64 200]]).length:=by simp;omega
 generalize K6++[some [Value.int .i64 1,.int .i64 624,.int .i64 434,.int .i64 632,.int .i64 282,.int .i64 200]]=K7 at *;clear hu5 hx5 hl5;refine AK ?_;refine aC (hq2.sub fN) ?_;clear hq2;rintro r K8 ⟨rfl,rfl⟩;(try simp only[aA])
 (refine aF (t:=false) (by rfl) (fun h=>by cases h) (fun h=>?_);clear h;(try simp only[aA]))
 have hr1:=qy (lo:=lo) (H:=K8++[some [.int .i64 924,.int .i64 387,.int .i64 700,.int .i64 208,.int .i64 213,.int .i64 302]]) (v:=.slice (some ⟨K8.length,0,none⟩) 6 6) (l:=[924,387,700,208,213,302]) (s:=[231,101,11,97,205,2]) (by simp;omega) (.inr ⟨K8.length,0,none,6,_,rfl,aH,rfl,by simp,.inl rfl,by simp⟩) ((hx7.trans (Ext.app K8 _)).get ht) (by simp);rw[A2,show decide ((([231,101,11,97,205,2],0):List UInt8×Nat).1=[231,101,11,97,205,2]∧(([231,101,11,97,205,2],0):List UInt8×Nat).2=0)=true from by simp]at hr1;have hxa1:=hx7.trans (Ext.app K8 [some [.int .i64 924,.int .i64 387,.int .i64 700,.int .i64 208,.int .i64 213,.int .i64 302]]);repeat' ((first|refine tn ?_|refine tN rfl ?_);(try simp only[aA]))
 refine yb ?_;refine aC hr1 ?_;clear hr1;rintro r R1 ⟨hxr1,rfl⟩;have hxb1:=hxa1.trans hxr1;have hlb1:=hxb1.1;clear hxa1 hxr1 hx7;(try simp only[aA]);have hr2:=qy (lo:=lo) (H:=R1++[some [.int .i64 901,.int .i64 65]]) (v:=.slice (some ⟨R1.length,0,none⟩) 2 2) (l:=[901,65]) (s:=[65]) (by simp;omega) (.inr ⟨R1.length,0,none,2,_,rfl,aH,rfl,by simp,.inl rfl,by simp⟩) ((hxb1.trans (Ext.app R1 _)).get ht) (by simp);rw[BL,show decide ((([65],0):List UInt8×Nat).1=[65]∧(([65],0):List UInt8×Nat).2=0)=true from by simp]at hr2;have hxa2:=hxb1.trans (Ext.app R1 [some [.int .i64 901,.int .i64 65]])
 (refine xD rfl ?_;(try simp only[aA]))
 refine AK ?_;refine aC hr2 ?_;clear hr2;rintro r R2 ⟨hxr2,rfl⟩;have hxb2:=hxa2.trans hxr2;have hlb2:=hxb2.1;(try simp only[aA]);have hr3:=qy (lo:=lo) (H:=R2++[some [.int .i64 901,.int .i64 1,.int .i64 2,.int .i64 3,.int .i64 4,.int .i64 5]]) (v:=.slice (some ⟨R2.length,0,none⟩) 6 6) (l:=[901,1,2,3,4,5]) (s:=[1,2,3,4,5]) (by simp;omega) (.inr ⟨R2.length,0,none,6,_,rfl,aH,rfl,by simp,.inl rfl,by simp⟩) ((hxb2.trans (Ext.app R2 _)).get ht) (by simp);have hxa3:=hxb2.trans (Ext.app R2 [some [.int .i64 901,.int .i64 1,.int .i64 2,.int .i64 3,.int .i64 4,.int .i64 5]])
 (refine xD rfl ?_;(try simp only[aA]))
 refine AK ?_;refine aC hr3 ?_;rintro r R3 ⟨hxr3,rfl⟩;have hxb3:=hxa3.trans hxr3;have hlb3:=hxb3.1;(try simp only[aA]);have hr4:=qy (lo:=lo) (H:=R3++[some [.int .i64 870]]) (v:=.slice (some ⟨R3.length,0,none⟩) 1 1) (l:=[870]) (s:=[59]) (by simp;omega) (.inr ⟨R3.length,0,none,1,_,rfl,aH,rfl,by simp,.inl rfl,by simp⟩) ((hxb3.trans (Ext.app R3 _)).get ht) (by simp);have hxa4:=hxb3.trans (Ext.app R3 [some [.int .i64 870]])
 (refine xD rfl ?_;(try simp only[aA]))
 refine AK ?_;refine aC hr4 ?_;rintro r R4 ⟨hxr4,rfl⟩;have hxb4:=hxa4.trans hxr4;(try simp only[aA]);repeat' ((first|refine tn ?_|refine tN rfl ?_);(try simp ))
 exact⟨hxb4,rfl⟩
theorem own:ownKnob Tryd.prog.godebug=none:=by kernel_rfl
theorem laidOut:laidOutB Tryd.prog=true:=by kernel_rfl
def powT:List Int:=[1,10,100,1000,10000,100000,1000000,10000000,100000000,1000000000,10000000000,100000000000,1000000000000,10000000000000,100000000000000,1000000000000000,10000000000000000,100000000000000000,1000000000000000000,10000000000000000000]
def gaV:List (Option (List Value)):=[some (powT.map (Value.int .u64)),none,none,none]
abbrev lds : List (String × DataW Unit) := [("math/bits.deBruijn32tab", Rows.laid_math_bits_deBruijn32tab), ("math/bits.deBruijn64tab", Rows.laid_math_bits_deBruijn64tab), ("internal/strconv.uint64pow10", Rows.laid_internal_strconv_uint64pow10)]
theorem Hf : Tryd.prog.globalNamed "internal/strconv.uint64pow10" = some 0 := by kernel_rfl
theorem known{W:World}(hL:laidMetH Tryd.prog lds W):yz gaV W:=by
 intro g c hg
 match g,hg with
 | 0,hg=>
  simp[gaV]at hg;subst hg;refine⟨by decide,?_⟩;exact wI (name := "internal/strconv.uint64pow10") (l := powT) (t := 165) (n := 20) (e := 138) hL (by rfl) Hf (by kernel_rfl) (by kernel_rfl) (by kernel_rfl) (by kernel_rfl) (by kernel_rfl)
 | 1,hg=>grind[gaV]
 | 2,hg=>grind[gaV]
 | 3,hg=>grind[gaV]
 | g+4,hg=>grind[gaV]
theorem Gb{W:World}(hL:laidMetH Tryd.prog lds W):Tryd.prog.globals.size≤W.heap.size:=by
 have := wF (name := "math/bits.deBruijn64tab") (g := 3) hL (by rfl) (by rfl) (by kernel_rfl)
 assumption
theorem vj(os:Os)(args:Array Value):laidMetH Tryd.prog lds ((World.laidAll Tryd.prog os lds).forCall (fun _ _=>0) ⟨#[],args,[]⟩).memory:=
 laidMetH_iff.2 ⟨laidMet_laidAll args (by kernel_rfl) (by kernel_rfl),fun x hx=>by grind[DataW.handleName?,Rows.laid_math_bits_deBruijn32tab,Rows.laid_math_bits_deBruijn64tab,Rows.laid_internal_strconv_uint64pow10]⟩
theorem first{H:Heap}(h:Longer gaV H):H.get 0=some gQ:=by
 obtain⟨r,rfl⟩:=h;rfl
theorem Gg{l:List Int}(h:∀x ∈ l,IntKind.u8.min≤x∧x≤IntKind.u8.max):∃r:List UInt8,l.map (Value.int .u8)=r.map bZ∧r.length=l.length:=by
 refine⟨l.map (fun x=>UInt8.ofNat x.toNat),?_,by simp⟩;rw[List.map_map];refine List.map_congr_left fun x hx=>?_;have hm:IntKind.u8.min=0:=by decide
 have hM:IntKind.u8.max=255:=by decide
 show Value.int .u8 x=.int .u8 ((UInt8.ofNat x.toNat).toNat:Nat)
 grind[UInt8.toNat_ofNat_of_lt']
theorem BB{B:Nat}{H:Heap}{v:Value}(h:Has B H (.sl (.int .u8)) [v]):∃l:List UInt8,Sl bZ H v l∧l.length≤B:=by
 rcases h with h|⟨i,len,cap,c,h1,h2,h3,h4,h5,h6⟩
 ·cases h
  exact⟨[],.inl ⟨rfl,rfl⟩,by simp⟩
 ·cases h1
  obtain⟨xs,hl,rfl,hr⟩:=rf (B:=B) (H:=H) _ _ h6;obtain⟨us,e,hul⟩:=Gg hr;have hlen:(us.take len).length=len:=by simp;omega
  exact⟨us.take len,.inr ⟨i,0,none,cap,_,by rw[hlen],h5,by simp_all,by simp;omega,.inl rfl,by omega⟩,by omega⟩
theorem AH{B:Nat}{H:Heap}{v:Value}(h:HasArg B H (.sl (.int .u8)) v):∃l:List UInt8,Sl bZ H v l:=by
 grind[HasArg,BB]
theorem wW{l:List TypeId}(h:l.all (fun t=>!Tryd.prog.wantsStandIn t)=true){j:Nat}{t:TypeId}(ht:l[j]?=some t):Tryd.prog.wantsStandIn t=false:=by
 grind
end Go.Proofs.YtgpolmomghejoaaDoor
