/- Lemmas. -/
import Derived.Test.YtgpolmomghejoaaDoorM26
import Derived.Test.YtgpolmomghejoaaDoorM27
set_option linter.unusedVariables false
set_option linter.unusedSimpArgs false
set_option linter.unusedSectionVars false
namespace Go.Proofs.YtgpolmomghejoaaDoor
open Go.Abs
set_option maxRecDepth 20000
set_option linter.defProp false in
def xBXrt:=And.intro @Int.cast_ofNat_Int (And.intro @ite_self.{1} (And.intro @vcells2 (And.intro @ls_lenS' (And.intro @str_size (And.intro @ls_seq (And.intro @ls_sne (And.intro @ls_idxS' (And.intro @ls_idxS0 (And.intro @ls_slSa (And.intro @ls_slSb (And.intro @ls_slSc (And.intro @ls_sadd @ca1))))))))))))
theorem xEXrt{P:Prop}(h:P:=by simp(disch:=first|omega|(simp only[lenB];omega))only[evB,xBXrt,Nat.reduceAdd,Nat.reduceMul,Nat.reduceBEq,Int.reduceToNat,Int.reduceEq,Int.reduceNe, *];rfl):P:=h
theorem xSXrt{cp:FuncId→Option CF}{lo:Nat}{l:List (Nat×E)}{chk:List E}{Q:Post}{S:List Value}{H:Heap}{vs:List (Nat×Value)}{S':List Value}(k:Q .normal S' H)(h:evSets S H l=some vs:=by exact xEXrt)(hc:evChk S H chk=true:=by simp(disch:=first|omega|(simp only[lenB];omega))only[evB,xBXrt,Nat.reduceAdd,Nat.reduceMul,Nat.reduceBEq,Int.reduceToNat,Int.reduceEq,Int.reduceNe, *])(hS:setAll S vs=S':=by exact xEXrt):wpS cp lo (.sets l chk) Q S H:=aw_sets h hc hS k
theorem xHXrt{cp:FuncId→Option CF}{lo:Nat}{l:List (Nat×E)}{chk:List E}{Q:Post}{S:List Value}{H:Heap}{vs:List (Nat×Value)}{dst:Option Nat}{o:HOp}{a:E}{xs:List Value}(k:wpH cp lo o xs H fun v H'=>Q .normal (setD (setAll S vs) dst v) H')(h:evSets S H l=some vs:=by exact xEXrt)(hc:evChk S H chk=true:=by simp(disch:=first|omega|(simp only[lenB];omega))only[evB,xBXrt,Nat.reduceAdd,Nat.reduceMul,Nat.reduceBEq,Int.reduceToNat,Int.reduceEq,Int.reduceNe, *])(ha:ev S H a=some xs:=by exact xEXrt):wpS cp lo (.hv l chk [] dst o a) Q S H:=aw_hv h hc ha k
theorem xOXrt{cp:FuncId→Option CF}{lo:Nat}{l:List (Nat×E)}{chk:List E}{Q:Post}{S:List Value}{H:Heap}{vs:List (Nat×Value)}{dst:Option Nat}{o:HOp}{a:E}{xs:List Value}{S':List Value}{H':Heap}{v:Value}(hcall:o.isCall=false)(k:Q .normal S' H')(h:evSets S H l=some vs:=by exact xEXrt)(hc:evChk S H chk=true:=by simp(disch:=first|omega|(simp only[lenB];omega))only[evB,xBXrt,Nat.reduceAdd,Nat.reduceMul,Nat.reduceBEq,Int.reduceToNat,Int.reduceEq,Int.reduceNe, *])(ha:ev S H a=some xs:=by exact xEXrt)(ho:hsem0 lo o xs H=some (v,H'):=by exact xEXrt)(hS:setD (setAll S vs) dst v=S':=by exact xEXrt):wpS cp lo (.hv l chk [] dst o a) Q S H:=aw_op hcall h hc ha ho hS k
theorem xCXrt{cp:FuncId→Option CF}{lo:Nat}{c:E}{a b:Stm}{Q:Post}{S:List Value}{H:Heap}{t:Bool}(k1:t=true→wpS cp lo a Q S H)(k2:t=false→wpS cp lo b Q S H)(h:ev1 S H c=some (.bool t):=by exact xEXrt):wpS cp lo (.cond c a b) Q S H:=aw_cond h k1 k2
theorem xTXrt{cp:FuncId→Option CF}{lo:Nat}{l:List (Nat×E)}{chk:List E}{Q:Post}{S:List Value}{H:Heap}{vs:List (Nat×Value)}{dst:Option Nat}{o:HOp}{a:E}{xs:List Value}{pc:PC}(k:wpH cp lo o xs H fun v H'=>Q .normal (setD (setAll S vs) dst v) H')(h:evSets S H l=some vs:=by exact xEXrt)(hc:evChk S H chk=true:=by simp(disch:=first|omega|(simp only[lenB];omega))only[evB,xBXrt,Nat.reduceAdd,Nat.reduceMul,Nat.reduceBEq,Int.reduceToNat,Int.reduceEq,Int.reduceNe, *])(hp:holds S H pc=some true:=by simp(disch:=first|omega|(simp only[lenB];omega))only[evB,xBXrt,Nat.reduceAdd,Nat.reduceMul,Nat.reduceBEq,Int.reduceToNat,Int.reduceEq,Int.reduceNe, *];try rfl)(ha:ev S H a=some xs:=by exact xEXrt):wpS cp lo (.hv l chk pc dst o a) Q S H:=aw_hvT h hc hp ha k
theorem xRXrt{cf:CF}{R:Value→Heap→Prop}{S:List Value}{H:Heap}{vs:List Value}(k:R (resultOf vs) H)(h:evList S H cf.res=some vs:=by exact xEXrt):bodyQ cf R .ret S H:=body_ret h k
theorem lawRouP{H:Heap}{v:Value}{p:List UInt8}(hv:Sl encU H v p)(ht:H.get 0=some pow10V) :
  Ev cpx H.length 7 [v] H (fun r _=>r=.bool true):=by
 obtain⟨ad,c0,rfl⟩:=hv.len
 have hX:=exampleP (Nat.le_refl H.length) ht
 refine xt7 ?_
 unfold bd7 cf7
 simp only[kB,ctlB]
 repeat' ((first|refine xSXrt ?_|refine xOXrt rfl ?_);(try simp only[ctlB]))
 refine xCXrt (fun h=>?_) (fun h=>?_)
 ·clear h
  (try simp only[ctlB])
  refine xHXrt ?_
  refine wpH_call0 hX ?_
  rintro r K ⟨-,rfl⟩
  (try simp only[ctlB])
  repeat' ((first|refine xSXrt ?_|refine xOXrt rfl ?_);(try simp only[ctlB]))
  refine xRXrt ?_
  rfl
 have hp:p.length≤200:=by simp only[decide_eq_false_iff_not]at h;omega
 clear h hX
 have hE:=encodeP (lo:=H.length) (p:=p) (fun {H0 lo B pv F}=>digP (by omega)) (Nat.le_refl _) hv (by omega)
 (try simp only[ctlB])
 refine xHXrt ?_
 refine wpH_call0 (hE.sub sub_cpx) ?_
 clear hE
 rintro r K1 ⟨hx1,u1,ws,T,rfl,hu1,hlow,-,hlen,hb⟩
 have hW:=encFacts hlow hlen hb (by omega)
 clear hlow hlen
 have hl1:=hx1.1
 have hL:=lengthP (lo:=H.length) (p:=p) (fun {H0 lo B pv F}=>digP (by omega)) hl1 (hv.mono hx1) (by omega)
 obtain⟨au,cu,rfl⟩:=hu1.len
 (try simp only[ctlB])
 repeat' ((first|refine xSXrt ?_|refine xOXrt rfl ?_);(try simp only[ctlB]))
 refine xHXrt ?_
 refine wpH_call0 (hL.sub sub_cpx) ?_
 clear hL
 rintro r K2 ⟨hx2,ws2,T2,rfl,-,-,-,hb2⟩
 have hws:=hb2.uniq hb
 subst hws
 have hx12:=hx1.trans hx2
 have hl2:=hx12.1
 have ht2:=hx12.get ht
 have hu2:=hu1.mono hx2
 have hp2:=hv.mono hx12
 have hdec:=hW.dec
 have h928:=hW.w
 have hwl:=hW.len
 have hb0:=ls_b2sS hp2
 have hR:=readsP (lo:=H.length) (s:=p) hl2 (sl_int hu2) ht2 (by omega)
 rw[hdec]at hR
 simp only[and_self,decide_true]at hR
 replace h928:False∨_:=.inr h928
 clear hb hb2 hW hdec hu1
 (try simp only[ctlB])
 repeat' ((first|refine xSXrt ?_|refine xOXrt rfl ?_);(try simp only[ctlB]))
 refine aw_for (fun i S K=>K2=K∧∃(z:Nat→Value),S=[.slice ad p.length c0,z 1,.slice au ws2.length cu,.int .i64 0,.int .i64 (ws2.length:Nat),.int .i64 0,.int .i64 (i:Nat),z 7,z 8,z 9,z 10,z 11,z 12,z 13]) ws2.length ?_ ?_ ?_ ?_
 ·exact⟨rfl,exZSb rfl⟩
 ·rintro i S K hi ⟨rfl,z,rfl⟩
  exact⟨_,xEXrt,by simp⟩
 ·rintro i S K hi ⟨rfl,z,rfl⟩
  obtain⟨b,o,sp,cap,xs,e,hg,hx,-⟩:=hu2.els 0 (by omega)
  cases e
  have hxi:=hx
  have hw:=h928.resolve_left id (ws2.getD i 0) (by rw[List.getD_eq_getElem?_getD,List.getElem?_eq_getElem hi];exact List.getElem_mem hi)
  replace hx:False∨_:=.inr hx
  have hxa:xs[o+i]?=some (.int .i64 (((ws2.getD i 0:Nat)):Int)):=hxi i hi
  clear hxi
  generalize ws2.getD i 0=w at *
  (try simp only[ctlB])
  refine xCXrt (fun h=>?_) (fun h=>?_)
  ·exfalso
   simp only[Bool.or_eq_true,decide_eq_true_eq]at h
   omega
  clear h
  (try simp only[ctlB])
  repeat' ((first|refine xSXrt ?_|refine xOXrt rfl ?_);(try simp only[ctlB]))
  exact⟨by trivial,exZSb rfl⟩
 rintro S K ⟨rfl,z,rfl⟩
 (try simp only[ctlB])
 repeat' ((first|refine xSXrt ?_|refine xOXrt rfl ?_);(try simp only[ctlB]))
 refine xTXrt ?_
 refine wpH_call0 hR ?_
 rintro r K3 ⟨hx3,rfl⟩
 have hx13:=hx12.trans hx3
 have hl3:=hx13.1
 have hX:=exampleP hl3 (hx13.get ht)
 (try simp only[ctlB])
 repeat' ((first|refine xSXrt ?_|refine xOXrt rfl ?_);(try simp only[ctlB]))
 refine xTXrt ?_
 refine wpH_call0 hX ?_
 rintro r K4 ⟨-,rfl⟩
 (try simp only[ctlB])
 repeat' ((first|refine xSXrt ?_|refine xOXrt rfl ?_);(try simp only[ctlB]))
 refine xRXrt ?_
 rfl
end Go.Proofs.YtgpolmomghejoaaDoor
