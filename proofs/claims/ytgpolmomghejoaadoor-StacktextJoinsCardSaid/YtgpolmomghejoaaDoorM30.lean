/- Lemmas. -/
import Derived.Test.YtgpolmomghejoaaDoorM26
import Derived.Test.YtgpolmomghejoaaDoorM27
set_option linter.unusedVariables false
set_option linter.unusedSimpArgs false
set_option linter.unusedSectionVars false
namespace Go.Proofs.YtgpolmomghejoaaDoor
open Go.Abs
set_option maxRecDepth 20000
theorem take_dgs:∀(l:List UInt8),(∀b ∈ l,isDg b=true)→l.takeWhile isDg=l
 | [],_=>rfl
 | a::l,h=>by rw[List.takeWhile_cons,if_pos (h a (by simp)),take_dgs l fun b hb=>h b (by simp[hb])]
section
variable {p:List UInt8}{T:Tab}(hl:∀i,i≤p.length→LowA p T i)
include hl
theorem en_end:T.en p.length=0:=((hl _ (Nat.le_refl _)).e0 rfl).1
theorem tl_end:∀(r i t:Nat),i+r=p.length→1≤t→t+r≤5→T.tl i t≤r
 | 0,i,t,h,h1,h2=>by
  have e:i=p.length:=by omega
  subst e
  have:=(hl _ (Nat.le_refl _)).tl t h1 (by omega)
  rw[en_end hl]at this;exact this
 | r+1,i,t,h,h1,h2=>by
  have:=(hl i (by omega)).t1 (by omega) t h1 (by omega)
  have ih:=tl_end r (i+1) (t+1) (by omega) (by omega) (by omega)
  omega
theorem sx_six:∀(q i:Nat),i+6*q=p.length→T.sx i≤5*q
 | 0,i,h=>by
  have e:i=p.length:=by omega
  subst e
  have:=(hl _ (Nat.le_refl _)).sx
  rw[en_end hl]at this;omega
 | q+1,i,h=>by
  have:=(hl i (by omega)).s6 (by omega)
  have ih:=sx_six q (i+6) (by omega)
  omega
theorem nn_six{r:Nat}(h0:0<r)(h5:r≤5):∀(q i:Nat),i+(6*q+r)=p.length→T.nn i≤5*q+r
 | 0,i,h=>by
  have:=(hl i (by omega)).n1 (by omega)
  have:=tl_end hl (r-1) (i+1) 1 (by omega) (by omega) (by omega)
  omega
 | q+1,i,h=>by
  have:=(hl i (by omega)).n6 (by omega)
  have ih:=nn_six h0 h5 q (i+6) (by omega)
  omega
theorem tx_bytes(h:0<p.length):T.tx 0 0≤1+p.length/6*5+p.length%6:=by
 have hc:=(hl 0 (Nat.zero_le _)).cm 0 (by decide)
 unfold cmdC at hc
 by_cases hr:0<p.length%6
 ·have:=nn_six hl hr (by omega) (p.length/6) 0 (by omega)
  omega
 ·have:=sx_six hl (p.length/6) 0 (by omega)
  omega
theorem dg_end(hd:∀b ∈ p,isDg b=true):∀(q i:Nat),i≤p.length→(p.length-i)/44=q→T.dg i≤15*q+(if 0<(p.length-i)%44 then(p.length-i)%44/3+1 else 0)
 | 0,i,hi,h=>by
  have hdg:dgA p i=p.length-i:=by
   unfold dgA
   rw[take_dgs _ (fun b hb=>hd b (List.mem_of_mem_drop (List.mem_of_mem_take hb)))]
   simp;omega
  split
  ·rename_i h0
   have:=(hl i hi).dk (p.length-i) (by omega) (by omega)
   unfold endD at this
   rw[if_neg (by omega),show i+(p.length-i)=p.length by omega,en_end hl]at this
   rw[show(p.length-i)%44=p.length-i by omega]
   omega
  ·have e:i=p.length:=by omega
   subst e
   have:=(hl _ (Nat.le_refl _)).dg
   rw[en_end hl]at this;omega
 | q+1,i,hi,h=>by
  have hdg:dgA p i=44:=by
   unfold dgA
   rw[take_dgs _ (fun b hb=>hd b (List.mem_of_mem_drop (List.mem_of_mem_take hb)))]
   simp;omega
  have h1:=(hl i hi).dk 44 (by omega) (by omega)
  unfold endD at h1
  rw[if_pos rfl]at h1
  have ih:=dg_end hd q (i+44) (by omega) (by omega)
  rw[show(p.length-(i+44))%44=(p.length-i)%44 by omega]at ih
  omega
theorem tx_digs(hd:∀b ∈ p,isDg b=true):T.tx 0 0≤1+p.length/44*15+(if 0<p.length%44 then p.length%44/3+1 else 0):=by
 have hc:=(hl 0 (Nat.zero_le _)).cm 0 (by decide)
 unfold cmdC at hc
 have:=dg_end hl hd (p.length/44) 0 (Nat.zero_le _) rfl
 rw[Nat.sub_zero]at this
 omega
end
theorem acc_pos{p:List UInt8}{ws:List Nat}(h:0<p.length)(ha:Acc p (0,0,0,0) ws):1≤ws.length:=by
 cases ws with
 | nil=>
  have:(0:Nat)=p.length:=ha
  omega
 | cons=>simp
set_option linter.defProp false in
def xBXbo:=And.intro @Int.cast_ofNat_Int (And.intro @ite_self.{1} (And.intro @vcells2 (And.intro @ls_lenS' (And.intro @str_size (And.intro @ls_seq (And.intro @ls_sne (And.intro @ls_idxS' (And.intro @ls_idxS0 (And.intro @ls_slSa (And.intro @ls_slSb (And.intro @ls_slSc (And.intro @ls_sadd @ca1))))))))))))
theorem xEXbo{P:Prop}(h:P:=by simp(disch:=first|omega|(simp only[lenB];omega))only[evB,xBXbo,Nat.reduceAdd,Nat.reduceMul,Nat.reduceBEq,Int.reduceToNat,Int.reduceEq,Int.reduceNe, *];rfl):P:=h
theorem xSXbo{cp:FuncId→Option CF}{lo:Nat}{l:List (Nat×E)}{chk:List E}{Q:Post}{S:List Value}{H:Heap}{vs:List (Nat×Value)}{S':List Value}(k:Q .normal S' H)(h:evSets S H l=some vs:=by exact xEXbo)(hc:evChk S H chk=true:=by simp(disch:=first|omega|(simp only[lenB];omega))only[evB,xBXbo,Nat.reduceAdd,Nat.reduceMul,Nat.reduceBEq,Int.reduceToNat,Int.reduceEq,Int.reduceNe, *])(hS:setAll S vs=S':=by exact xEXbo):wpS cp lo (.sets l chk) Q S H:=aw_sets h hc hS k
theorem xHXbo{cp:FuncId→Option CF}{lo:Nat}{l:List (Nat×E)}{chk:List E}{Q:Post}{S:List Value}{H:Heap}{vs:List (Nat×Value)}{dst:Option Nat}{o:HOp}{a:E}{xs:List Value}(k:wpH cp lo o xs H fun v H'=>Q .normal (setD (setAll S vs) dst v) H')(h:evSets S H l=some vs:=by exact xEXbo)(hc:evChk S H chk=true:=by simp(disch:=first|omega|(simp only[lenB];omega))only[evB,xBXbo,Nat.reduceAdd,Nat.reduceMul,Nat.reduceBEq,Int.reduceToNat,Int.reduceEq,Int.reduceNe, *])(ha:ev S H a=some xs:=by exact xEXbo):wpS cp lo (.hv l chk [] dst o a) Q S H:=aw_hv h hc ha k
theorem xOXbo{cp:FuncId→Option CF}{lo:Nat}{l:List (Nat×E)}{chk:List E}{Q:Post}{S:List Value}{H:Heap}{vs:List (Nat×Value)}{dst:Option Nat}{o:HOp}{a:E}{xs:List Value}{S':List Value}{H':Heap}{v:Value}(hcall:o.isCall=false)(k:Q .normal S' H')(h:evSets S H l=some vs:=by exact xEXbo)(hc:evChk S H chk=true:=by simp(disch:=first|omega|(simp only[lenB];omega))only[evB,xBXbo,Nat.reduceAdd,Nat.reduceMul,Nat.reduceBEq,Int.reduceToNat,Int.reduceEq,Int.reduceNe, *])(ha:ev S H a=some xs:=by exact xEXbo)(ho:hsem0 lo o xs H=some (v,H'):=by exact xEXbo)(hS:setD (setAll S vs) dst v=S':=by exact xEXbo):wpS cp lo (.hv l chk [] dst o a) Q S H:=aw_op hcall h hc ha ho hS k
theorem xCXbo{cp:FuncId→Option CF}{lo:Nat}{c:E}{a b:Stm}{Q:Post}{S:List Value}{H:Heap}{t:Bool}(k1:t=true→wpS cp lo a Q S H)(k2:t=false→wpS cp lo b Q S H)(h:ev1 S H c=some (.bool t):=by exact xEXbo):wpS cp lo (.cond c a b) Q S H:=aw_cond h k1 k2
theorem xTXbo{cp:FuncId→Option CF}{lo:Nat}{l:List (Nat×E)}{chk:List E}{Q:Post}{S:List Value}{H:Heap}{vs:List (Nat×Value)}{dst:Option Nat}{o:HOp}{a:E}{xs:List Value}{pc:PC}(k:wpH cp lo o xs H fun v H'=>Q .normal (setD (setAll S vs) dst v) H')(h:evSets S H l=some vs:=by exact xEXbo)(hc:evChk S H chk=true:=by simp(disch:=first|omega|(simp only[lenB];omega))only[evB,xBXbo,Nat.reduceAdd,Nat.reduceMul,Nat.reduceBEq,Int.reduceToNat,Int.reduceEq,Int.reduceNe, *])(hp:holds S H pc=some true:=by simp(disch:=first|omega|(simp only[lenB];omega))only[evB,xBXbo,Nat.reduceAdd,Nat.reduceMul,Nat.reduceBEq,Int.reduceToNat,Int.reduceEq,Int.reduceNe, *];try rfl)(ha:ev S H a=some xs:=by exact xEXbo):wpS cp lo (.hv l chk pc dst o a) Q S H:=aw_hvT h hc hp ha k
theorem xRXbo{cf:CF}{R:Value→Heap→Prop}{S:List Value}{H:Heap}{vs:List Value}(k:R (resultOf vs) H)(h:evList S H cf.res=some vs:=by exact xEXbo):bodyQ cf R .ret S H:=body_ret h k
theorem lawBouP{H:Heap}{v:Value}{p:List UInt8}(hv:Sl encU H v p)(ht:H.get 0=some pow10V) :
  Ev cpx H.length 11 [v] H (fun r _=>r=.bool true):=by
 obtain⟨ad,c0,rfl⟩:=hv.len
 have hX:=exampleP (Nat.le_refl H.length) ht
 refine xt11 ?_
 unfold bd11 cf11
 simp only[kB,ctlB]
 repeat' ((first|refine xSXbo ?_|refine xOXbo rfl ?_);(try simp only[ctlB]))
 refine xCXbo (fun h=>?_) (fun h=>?_)
 ·clear h
  (try simp only[ctlB])
  refine xHXbo ?_
  refine wpH_call0 hX ?_
  rintro r K ⟨-,rfl⟩
  (try simp only[ctlB])
  repeat' ((first|refine xSXbo ?_|refine xOXbo rfl ?_);(try simp only[ctlB]))
  refine xRXbo ?_
  rfl
 have hp:0<p.length∧p.length≤200:=by simp only[Bool.or_eq_false_iff,decide_eq_false_iff_not]at h;omega
 clear h hX
 have hL:=lengthP (lo:=H.length) (p:=p) (fun {H0 lo B pv F}=>digP (by omega)) (Nat.le_refl _) hv (by omega)
 (try simp only[ctlB])
 refine xHXbo ?_
 refine wpH_call0 (hL.sub sub_cpx) ?_
 clear hL
 rintro r K1 ⟨hx1,ws,T,rfl,hlow,-,hlen,hb⟩
 have hb1:=acc_pos hp.1 hb.1
 have hb2:=tx_bytes hlow hp.1
 rw[←hlen]at hb2
 have hb3:(∀b ∈ p,isDg b=true)→ws.length≤1+p.length/44*15+(if 0<p.length%44 then p.length%44/3+1 else 0):=fun hd=>by rw[hlen];exact tx_digs hlow hd
 replace hb3:False∨_:=.inr hb3
 clear hlow hb hlen
 have hl1:=hx1.1
 have hu1:=hv.mono hx1
 have hX:=exampleP hl1 (hx1.get ht)
 have ed6:((p.length:Nat):Int).tdiv 6=((p.length/6:Nat):Int):=rfl
 have em6:((p.length:Nat):Int).tmod 6=((p.length%6:Nat):Int):=rfl
 have ed44:((p.length:Nat):Int).tdiv 44=((p.length/44:Nat):Int):=rfl
 have em44:((p.length:Nat):Int).tmod 44=((p.length%44:Nat):Int):=rfl
 have em3:((p.length%44:Nat):Int).tdiv 3=((p.length%44/3:Nat):Int):=rfl
 generalize ws.length=n at *
 (try simp only[ctlB])
 repeat' ((first|refine xSXbo ?_|refine xOXbo rfl ?_);(try simp only[ctlB]))
 refine xCXbo (fun h=>?_) (fun h=>?_)
 ·exfalso
  simp only[Bool.or_eq_true,decide_eq_true_eq,Bool.false_eq_true,false_or]at h
  omega
 clear h
 (try simp only[ctlB])
 repeat' ((first|refine xSXbo ?_|refine xOXbo rfl ?_);(try simp only[ctlB]))
 refine aw_for (fun i S K=>K1=K∧(∀j,j<i→isDg (p.getD j 0)=true)∧∃(z:Nat→Value),S=[.slice ad p.length c0,z 1,.int .i64 (n:Nat),.int .i64 0,.int .i64 (i:Nat),z 5,z 6,z 7,z 8,z 9,z 10]) p.length ?_ ?_ ?_ ?_
 ·exact⟨rfl,fun j hj=>by omega,exZSb rfl⟩
 ·rintro i S K hi ⟨rfl,-,z,rfl⟩
  exact⟨_,xEXbo,by simp⟩
 ·rintro i S K hi ⟨rfl,hj,z,rfl⟩
  obtain⟨b,o,sp,cap,xs,e,hg,hx,-⟩:=hu1.els 0 (by omega)
  cases e
  have hxa:xs[o+i]?=some (.int .u8 (((p.getD i 0).toNat:Nat):Int)):=hx i hi
  clear hx
  have hdg:isDg (p.getD i 0)=decide (48≤(p.getD i 0).toNat∧(p.getD i 0).toNat≤57):=by
   unfold isDg
   rw[Bool.decide_and]
  replace hj:False∨_:=.inr hj
  replace hdg:False∨_:=.inr hdg
  (try simp only[ctlB])
  refine xCXbo (fun h=>?_) (fun h=>?_)
  ·clear h
   (try simp only[ctlB])
   refine xHXbo ?_
   refine wpH_call0 hX ?_
   rintro r K ⟨-,rfl⟩
   (try simp only[ctlB])
   repeat' ((first|refine xSXbo ?_|refine xOXbo rfl ?_);(try simp only[ctlB]))
   refine xRXbo ?_
   rfl
  ·have hdi:isDg (p.getD i 0)=true:=by
    rw[hdg.resolve_left id]
    simp only[Bool.or_eq_false_iff,decide_eq_false_iff_not]at h
    simp only[decide_eq_true_eq]
    omega
   clear h
   (try simp only[ctlB])
   repeat' ((first|refine xSXbo ?_|refine xOXbo rfl ?_);(try simp only[ctlB]))
   refine⟨by trivial,fun j hjl=>?_,exZSb rfl⟩
   by_cases hji:j=i
   ·rw[hji];exact hdi
   ·exact hj.resolve_left id j (by omega)
 rintro S K ⟨rfl,hj,z,rfl⟩
 have hall:∀b ∈ p,isDg b=true:=fun b hb=>by
  obtain⟨j,hjl,rfl⟩:=List.getElem_of_mem hb
  have:=hj j hjl
  rwa [List.getD_eq_getElem?_getD,List.getElem?_eq_getElem hjl]at this
 have hb3:=hb3.resolve_left id hall
 clear hall hj
 (try simp only[ctlB])
 repeat' ((first|refine xSXbo ?_|refine xOXbo rfl ?_);(try simp only[ctlB]))
 by_cases h0:0<p.length%44
 ·rw[if_pos h0]at hb3
  have hle:((n:Nat):Int)≤1+((p.length/44:Nat):Int)*15+((p.length%44/3:Nat):Int)+1:=by omega
  refine xCXbo (fun h=>?_) (fun h=>?_)
  ·clear h
   (try simp only[ctlB])
   repeat' ((first|refine xSXbo ?_|refine xOXbo rfl ?_);(try simp only[ctlB]))
   refine xTXbo ?_
   refine wpH_call0 hX ?_
   rintro r K4 ⟨-,rfl⟩
   (try simp only[ctlB])
   repeat' ((first|refine xSXbo ?_|refine xOXbo rfl ?_);(try simp only[ctlB]))
   refine xRXbo ?_
   rfl
  ·exfalso;simp only[decide_eq_false_iff_not]at h;omega
 ·rw[if_neg h0]at hb3
  have hle:((n:Nat):Int)≤1+((p.length/44:Nat):Int)*15:=by omega
  refine xCXbo (fun h=>?_) (fun h=>?_)
  ·exfalso;simp only[decide_eq_true_eq]at h;omega
  clear h
  (try simp only[ctlB])
  repeat' ((first|refine xSXbo ?_|refine xOXbo rfl ?_);(try simp only[ctlB]))
  refine xTXbo ?_
  refine wpH_call0 hX ?_
  rintro r K4 ⟨-,rfl⟩
  (try simp only[ctlB])
  repeat' ((first|refine xSXbo ?_|refine xOXbo rfl ?_);(try simp only[ctlB]))
  refine xRXbo ?_
  rfl
end Go.Proofs.YtgpolmomghejoaaDoor
