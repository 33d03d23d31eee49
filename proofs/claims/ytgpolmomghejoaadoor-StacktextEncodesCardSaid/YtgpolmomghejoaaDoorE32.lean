/- Lemmas. -/
import Derived.Test.YtgpolmomghejoaaDoorE26
import Derived.Test.YtgpolmomghejoaaDoorE27
import Derived.Test.YtgpolmomghejoaaDoorE31
set_option linter.unusedVariables false
set_option linter.unusedSimpArgs false
set_option linter.unusedSectionVars false
namespace Go.Proofs.YtgpolmomghejoaaDoor
open Go.Abs
set_option maxRecDepth 20000
set_option linter.defProp false in
def p4:=And.intro @Int.cast_ofNat_Int (And.intro @ite_self.{1} (And.intro @fB (And.intro @kD (And.intro @dO (And.intro @qp (And.intro @oQ (And.intro @dK (And.intro @ll (And.intro @lr (And.intro @n8 (And.intro @nY (And.intro @qo @ca1))))))))))))
theorem j1{P:Prop}(h:P:=by simp(disch:=first|omega|(simp only[aD];omega))only[evB,p4,Nat.reduceAdd,Nat.reduceMul,Nat.reduceBEq,Int.reduceToNat,Int.reduceEq,Int.reduceNe, *];rfl):P:=h
theorem nl{cp:FuncId→Option CF}{lo:Nat}{l:List (Nat×E)}{chk:List E}{Q:aX}{S:List Value}{H:Heap}{vs:List (Nat×Value)}{S':List Value}(k:Q .normal S' H)(h:evSets S H l=some vs:=by exact j1)(hc:evChk S H chk=true:=by simp(disch:=first|omega|(simp only[aD];omega))only[evB,p4,Nat.reduceAdd,Nat.reduceMul,Nat.reduceBEq,Int.reduceToNat,Int.reduceEq,Int.reduceNe, *])(hS:setAll S vs=S':=by exact j1):wpS cp lo (.sets l chk) Q S H:=eF h hc hS k
theorem vL{cp:FuncId→Option CF}{lo:Nat}{l:List (Nat×E)}{chk:List E}{Q:aX}{S:List Value}{H:Heap}{vs:List (Nat×Value)}{dst:Option Nat}{o:HOp}{a:E}{xs:List Value}(k:wpH cp lo o xs H fun v H'=>Q .normal (setD (setAll S vs) dst v) H')(h:evSets S H l=some vs:=by exact j1)(hc:evChk S H chk=true:=by simp(disch:=first|omega|(simp only[aD];omega))only[evB,p4,Nat.reduceAdd,Nat.reduceMul,Nat.reduceBEq,Int.reduceToNat,Int.reduceEq,Int.reduceNe, *])(ha:ev S H a=some xs:=by exact j1):wpS cp lo (.hv l chk [] dst o a) Q S H:=gG h hc ha k
theorem oE{cp:FuncId→Option CF}{lo:Nat}{l:List (Nat×E)}{chk:List E}{Q:aX}{S:List Value}{H:Heap}{vs:List (Nat×Value)}{dst:Option Nat}{o:HOp}{a:E}{xs:List Value}{S':List Value}{H':Heap}{v:Value}(hcall:o.isCall=false)(k:Q .normal S' H')(h:evSets S H l=some vs:=by exact j1)(hc:evChk S H chk=true:=by simp(disch:=first|omega|(simp only[aD];omega))only[evB,p4,Nat.reduceAdd,Nat.reduceMul,Nat.reduceBEq,Int.reduceToNat,Int.reduceEq,Int.reduceNe, *])(ha:ev S H a=some xs:=by exact j1)(ho:aR lo o xs H=some (v,H'):=by exact j1)(hS:setD (setAll S vs) dst v=S':=by exact j1):wpS cp lo (.hv l chk [] dst o a) Q S H:=eV hcall h hc ha ho hS k
theorem Fv{cp:FuncId→Option CF}{lo:Nat}{c:E}{a b:Stm}{Q:aX}{S:List Value}{H:Heap}{t:Bool}(k1:t=true→wpS cp lo a Q S H)(k2:t=false→wpS cp lo b Q S H)(h:ev1 S H c=some (.bool t):=by exact j1):wpS cp lo (.cond c a b) Q S H:=aF h k1 k2
theorem Bq{cp:FuncId→Option CF}{lo:Nat}{l:List (Nat×E)}{chk:List E}{Q:aX}{S:List Value}{H:Heap}{vs:List (Nat×Value)}{dst:Option Nat}{o:HOp}{a:E}{xs:List Value}{pc:PC}(k:wpH cp lo o xs H fun v H'=>Q .normal (setD (setAll S vs) dst v) H')(h:evSets S H l=some vs:=by exact j1)(hc:evChk S H chk=true:=by simp(disch:=first|omega|(simp only[aD];omega))only[evB,p4,Nat.reduceAdd,Nat.reduceMul,Nat.reduceBEq,Int.reduceToNat,Int.reduceEq,Int.reduceNe, *])(hp:holds S H pc=some true:=by simp(disch:=first|omega|(simp only[aD];omega))only[evB,p4,Nat.reduceAdd,Nat.reduceMul,Nat.reduceBEq,Int.reduceToNat,Int.reduceEq,Int.reduceNe, *];try rfl)(ha:ev S H a=some xs:=by exact j1):wpS cp lo (.hv l chk pc dst o a) Q S H:=ta h hc hp ha k
theorem Bk{cf:CF}{R:Value→Heap→Prop}{S:List Value}{H:Heap}{vs:List Value}(k:R (aP vs) H)(h:evList S H cf.res=some vs:=by exact j1):aS cf R .ret S H:=eM h k
theorem BE{H:Heap}{v:Value}{p:List UInt8}(hv:Sl bZ H v p)(ht:H.get 0=some gQ) :
  Ev cpx H.length 5 [v] H (fun r _=>r=.bool true):=by
 obtain⟨ad,c0,rfl⟩:=hv.len;have hX:=sE (Nat.le_refl H.length) ht;refine xt5 ?_;unfold bd5 cf5;simp only[kB,aA];repeat' ((first|refine nl ?_|refine oE rfl ?_);(try simp only[aA]))
 refine Fv (fun h=>?_) (fun h=>?_)
 ·clear h
  (try simp only[aA]);refine vL ?_;refine aC hX ?_;rintro r K ⟨-,rfl⟩;(try simp only[aA]);repeat' ((first|refine nl ?_|refine oE rfl ?_);(try simp only[aA]))
  refine Bk ?_;rfl
 have hp:p.length≤24:=by simp only[decide_eq_false_iff_not]at h;omega
 clear h hX;have hE:=qL (lo:=H.length) (p:=p) (fun {H0 lo B pv F}=>GA (by omega)) (Nat.le_refl _) hv (by omega);(try simp only[aA]);refine vL ?_;refine aC (hE.sub fN) ?_;clear hE;rintro r K1 ⟨hx1,u1,ws,T,rfl,hu1,hlow,-,hlen,hb⟩;have hl1:=hx1.1;have hwl:ws.length≤1000:=by
  have:=zY hlow p.length (Nat.le_refl _);rw[Nat.sub_self]at this;omega
 have hR:=xe (lo:=H.length) hlow hl1 (hv.mono hx1) (by omega);replace hlow:False∨_:=.inr hlow;replace hlen:False∨_:=.inr hlen;replace hb:False∨_:=.inr hb;have hu10:=hu1;obtain⟨au,cu,rfl⟩:=hu1.len;(try simp only[aA]);repeat' ((first|refine nl ?_|refine oE rfl ?_);(try simp only[aA]))
 refine vL ?_;refine aC (hR.sub fN) ?_;clear hR;rintro r K2 ⟨hx2,u2,ws2,rfl,hu2,hb2⟩;have hws:=hb2.uniq (hb.resolve_left id);subst hws;clear hb2;have hx12:=hx1.trans hx2;have hl2:=hx12.1;have hL:=uS (lo:=H.length) (p:=p) (fun {H0 lo B pv F}=>GA (by omega)) hl2 (hv.mono hx12) (by omega);have hu11:=hu10.mono hx2;have hu20:=hu2;obtain⟨au2,cu2,rfl⟩:=hu2.len;(try simp only[aA]);repeat' ((first|refine nl ?_|refine oE rfl ?_);(try simp only[aA]))
 refine vL ?_;refine aC (hL.sub fN) ?_;clear hL;rintro r K3 ⟨hx3,ws3,T2,rfl,-,-,-,hb3⟩;have hws:=hb3.uniq (hb.resolve_left id);subst hws;clear hb3;have hx13:=hx12.trans hx3;have hl3:=hx13.1;have hS:=si (lo:=H.length) hl3 (by omega) (hu11.mono hx3) (hu20.mono hx3);simp only[decide_true]at hS;have hX:=sE hl3 (hx13.get ht);clear hlow hlen hb hu10 hu1 hu2 hu11 hu20;(try simp only[aA]);repeat' ((first|refine nl ?_|refine oE rfl ?_);(try simp only[aA]))
 refine Bq ?_;refine aC (hS.sub fN) ?_;rintro r K4 ⟨rfl,rfl⟩;(try simp only[aA]);repeat' ((first|refine nl ?_|refine oE rfl ?_);(try simp only[aA]))
 refine Bq ?_;refine aC hX ?_;rintro r K5 ⟨-,rfl⟩;(try simp only[aA]);repeat' ((first|refine nl ?_|refine oE rfl ?_);(try simp only[aA]))
 refine Bk ?_;rfl
end Go.Proofs.YtgpolmomghejoaaDoor
