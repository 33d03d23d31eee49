/- Lemmas. -/
import Derived.Test.YtgpolmomghejoaaDoorM18
import Derived.Test.YtgpolmomghejoaaDoorM25
import Derived.Test.YtgpolmomghejoaaDoorRows
import Derived.Test.YtgpolmomghejoaaDoorTie
import Derived.Test.YtgpolmomghejoaaDoorCards
import Derived.Lay
set_option linter.unusedVariables false
set_option linter.unusedSimpArgs false
set_option linter.unusedSectionVars false
namespace Go.Proofs.YtgpolmomghejoaaDoor
open Go.Abs
set_option maxRecDepth 20000
theorem lsameP{lo:Nat}{H:Heap}{v w:Value}{l m:List Nat}(hlo:lo≤H.length)(hbig:l.length≤100000)(hl:SlN H v l)(hm:SlN H w m) :
  Ev cp lo 17 [v,w] H (fun r H'=>H'=H∧r=.bool (decide (l=m))):=by
 have hl0:=hl
 have hm0:=hm
 obtain⟨ad,c0,rfl⟩:=hl.len
 obtain⟨ae,c1,rfl⟩:=hm.len
 refine st17 ?_;unfold bd17 cf17;simp only[kB,ctlB]
 repeat' ((first|refine xSSg ?_|refine xOSg rfl ?_);(try simp only[ctlB]))
 refine xCSg (fun h=>?_) (fun h=>?_)
 ·have hne:l≠m:=by
   rintro rfl;simp at h
  clear h
  (try simp only[ctlB])
  repeat' ((first|refine xSSg ?_|refine xOSg rfl ?_);(try simp only[ctlB]))
  refine xRSg ?_
  simp[hne,resultOf]
 have hle:l.length=m.length:=by
  simp only[decide_eq_false_iff_not]at h;omega
 have hle2:l.length≤m.length∧m.length≤l.length:=by omega
 have hiff:=eq_take hle
 clear h hle
 (try simp only[ctlB])
 repeat' ((first|refine xSSg ?_|refine xOSg rfl ?_);(try simp only[ctlB]))
 refine aw_for (fun i S H'=>H=H'∧(∀j,j<i→l.getD j 0=m.getD j 0)∧∃(z:Nat→Value),S=[.slice ad l.length c0,.slice ae m.length c1,z 2,.int .i64 (i:Nat)]) l.length ?_ ?_ ?_ ?_
 ·exact⟨rfl,fun j hj=>by omega,exZSb rfl⟩
 ·rintro i S H' hi ⟨rfl,-,z,rfl⟩
  exact⟨_,xESg,by simp⟩
 ·rintro i S H' hi ⟨rfl,hall,z,rfl⟩
  obtain⟨b0,o0,sp0,cap0,xs0,e0,hg0,hx0,hle0⟩:=hl.els 0 (by omega)
  cases e0
  obtain⟨b1,o1,sp1,cap1,xs1,e1,hg1,hx1,hle1⟩:=hm.els 0 (by omega)
  cases e1
  have hxa:=hx0 i hi
  have hxb:=hx1 i (by omega)
  have hi2:i<m.length:=by omega
  (try simp only[ctlB])
  repeat' ((first|refine xSSg ?_|refine xOSg rfl ?_);(try simp only[ctlB]))
  refine xCSg (fun h=>?_) (fun h=>?_)
  ·have hne:l≠m:=by
    intro e
    have:=hiff.1 e i hi
    simp only[decide_eq_true_eq]at h;omega
   clear h hiff
   (try simp only[ctlB])
   repeat' ((first|refine xSSg ?_|refine xOSg rfl ?_);(try simp only[ctlB]))
   refine xRSg ?_
   simp[hne,resultOf]
  ·have he:l.getD i 0=m.getD i 0:=by simp only[decide_eq_false_iff_not]at h;omega
   clear h
   (try simp only[ctlB])
   repeat' ((first|refine xSSg ?_|refine xOSg rfl ?_);(try simp only[ctlB]))
   refine⟨by trivial,fun j hj=>?_,exZSb (by first|rfl|(simp only[Int.natCast_add,Int.natCast_one];rfl)|simp only[Int.natCast_add,Int.natCast_one])⟩
   by_cases e:j=i
   ·subst e;exact he
   ·exact hall j (by omega)
 ·rintro S H' ⟨rfl,hall,z,rfl⟩
  have he:=hiff.2 hall
  clear hiff
  (try simp only[ctlB])
  repeat' ((first|refine xSSg ?_|refine xOSg rfl ?_);(try simp only[ctlB]))
  refine xRSg ?_
  simp[he,resultOf]
def finB(p:List UInt8):Thr→Bool
 | (0,i,_,_)=>i==p.length
 | (2,i,a,_)=>i==p.length&&a==0
 | (4,i,_,_)=>i==p.length
 | (5,i,a,_)=>i==p.length&&a==0
 | (6,i,_,_)=>i==p.length
 | _=>false
theorem fin_B{p:List UInt8}{t:Thr}:finS p t↔finB p t=true:=by
 unfold finS finB
 split<;>simp
def exP:List UInt8:=[65,66,97]
def st0:Thr:=(0,0,0,0)
theorem ex_least:((!finB exP st0)&&((movS exP st0).all fun x=>!finB exP x.2&&((movS exP x.2).all fun y=>!finB exP y.2 || (decide (1<x.1) || (x.1==1&&decide (810≤y.1))))))=true:=by kernel_rfl
theorem ex_there:((movS exP st0).any fun x=>x.1==1&&((movS exP x.2).any fun y=>y.1==810&&finB exP y.2))=true:=by kernel_rfl
theorem ex_best:BestIn (Acc exP st0) [1,810]:=by
 have h:=ex_least
 simp only[Bool.and_eq_true,List.all_eq_true,Bool.not_eq_true']at h
 obtain⟨h0,h1⟩:=h
 refine⟨?_,fun w hw=>?_⟩
 ·have h:=ex_there
  simp only[List.any_eq_true,Bool.and_eq_true,beq_iff_eq]at h
  obtain⟨x,hx,hx1,y,hy,hy1,hf⟩:=h
  exact⟨x.2,by rw[←hx1];exact hx,y.2,by rw[←hy1];exact hy,fin_B.2 hf⟩
 ·match w,hw with
  | [],hw=>rw[fin_B.1 hw]at h0;cases h0
  | [x],⟨t,hm,hf⟩=>have:=(h1 _ hm).1;rw[fin_B.1 hf]at this;cases this
  | [x,y],⟨t,hm,u,hm2,hf⟩=>
   refine .inr ⟨rfl,?_⟩
   have h2:=(h1 _ hm).2 _ hm2
   simp only[fin_B.1 hf,Bool.not_true,Bool.false_or,Bool.or_eq_true,Bool.and_eq_true,decide_eq_true_eq,beq_iff_eq]at h2
   rcases h2 with h2|⟨h2,h3⟩
   ·exact .inr (.inl h2)
   ·by_cases e:y=810
    ·exact .inl (by rw[h2,e])
    ·exact .inr (.inr ⟨h2.symm,.inl (by omega)⟩)
  | x::y::z::w,hw=>exact .inl (by simp only[List.length_cons,List.length_nil];omega)
theorem ex_nodig:∀i,dgA exP i=0:=by
 intro i
 by_cases h:i<3
 ·have:((List.range 3).all fun i=>dgA exP i==0)=true:=by kernel_rfl
  have:=List.all_eq_true.1 this i (List.mem_range.2 h)
  simpa using this
 ·unfold dgA
  rw[List.drop_eq_nil_of_le (by simp[exP];omega)]
  rfl
theorem ls_b2sS{H:Heap}{v:Value}{l:List UInt8}(h:Sl encU H v l):lsem .b2s [v] H=some (strV l):=by
 rcases h with ⟨rfl,rfl⟩|⟨b,o,sp,cap,xs,rfl,h2,h3,h4,h5,h6⟩
 ·rfl
 ·simp only[lsem]
  rw[cells_get h2 (by omega),h3]
  simp only[Option.bind_some,bytesOf_U,Option.map_some]
  all_goals rfl
theorem readsP{lo:Nat}{H:Heap}{v:Value}{l:List Int}{s:List UInt8}(hlo:lo≤H.length)(hl:SlI H v l)(ht:H.get 0=some pow10V)(hs:s.length≤100000) :
  Ev cpx lo 23 [v,strV s] H (fun r H'=>Ext H H'∧r=.bool (decide ((decT l).1=s∧(decT l).2=0))):=by
 refine xt23 ?_
 unfold bd23 cf23
 simp only[kB,ctlB]
 repeat' ((first|refine xSSg ?_|refine xOSg rfl ?_);(try simp only[ctlB]))
 refine xHSg ?_
 refine wpH_call0 (decodeP hlo hl ht) ?_
 rintro r K ⟨hx,u,rfl,hu⟩
 have hb:=ls_b2sS hu
 (try simp only[ctlB])
 repeat' ((first|refine xSSg ?_|refine xOSg rfl ?_);(try simp only[ctlB]))
 refine xRSg ?_
 refine⟨hx,?_⟩
 have e:decide (((decT l).2:Int)=0)=decide ((decT l).2=0):=by
  rw[decide_eq_decide];omega
 simp only[resultOf,e,Value.bool.injEq]
 rw[Bool.decide_and]
theorem hs_frz{lo b o n c:Nat}{H:Heap}(h:lo≤b):hsem0 lo .frz [.slice (some ⟨b,o,none⟩) n c] H=(match H.get b with|some _=>some (.slice (some ⟨b,o,none⟩) n c,H)|none=>none):=by
 simp only[hsem0,hsem,frzSem,if_pos h]
 cases H.get b<;>rfl
def exD:List UInt8:=[48,48,48,50,49,51,50,57,56,49,55,52,48,48,48]
theorem ex_num:numericT exD=([1,624,434,632,282,200],0):=by
 have h1:exD.all isDg=true:=by kernel_rfl
 have h2:numW exD=[1,624,434,632,282,200]:=by
  rw[numW_pos (by simp[exD])]
  have e1:exD.take 44=exD:=rfl
  have e2:exD.drop 44=[]:=rfl
  rw[e1,e2,numW_nil,List.append_nil]
  unfold grpW
  have e3:numB 10 (1::dgt exD)=numB 900 [1,624,434,632,282,200]:=by kernel_rfl
  rw[e3]
  exact b900_of (by decide) (by decide)
 unfold numericT
 rw[if_neg (by decide),if_pos h1,h2]
theorem ex_from:fromR [112]=([49,50],0):=by
 have h1:grpW [49,50]=[112]:=by
  unfold grpW
  have e3:numB 10 (1::dgt [49,50])=numB 900 [112]:=by kernel_rfl
  rw[e3]
  exact b900_of (by decide) (by decide)
 have h2:fromN [112]=some [49,50]:=by
  have:=fromN_grp (l:=[49,50]) (r:=[]) (by decide) (by decide) (by decide) (.inl rfl)
  rw[h1,fromN_nil]at this
  exact this
 unfold fromR
 rw[if_neg (by decide),if_pos (by kernel_rfl)]
 rw[show List.map Int.toNat [112]=[112] from rfl,h2]
theorem ex_dec1:decT [924,387,700,208,213,302]=([231,101,11,97,205,2],0):=by kernel_rfl
theorem ex_dec2:decT [901,65]=([65],0):=by kernel_rfl
theorem ex_dec3:decT [901,1,2,3,4,5]=([1,2,3,4,5],0):=by kernel_rfl
theorem ex_dec4:decT [870]=([59],0):=by kernel_rfl
set_option linter.defProp false in
def xBTu:=And.intro @Int.cast_ofNat_Int (And.intro @ite_self.{1} (And.intro @vcells2 (And.intro @ls_lenS' (And.intro @str_size (And.intro @ls_seq (And.intro @ls_sne (And.intro @ls_idxS' (And.intro @ls_idxS0 (And.intro @ls_slSa (And.intro @ls_slSb (And.intro @ls_slSc (And.intro @ls_sadd @hs_frz))))))))))))
theorem xETu{P:Prop}(h:P:=by simp(disch:=first|omega|(simp only[lenB];omega))only[evB,xBTu,Nat.reduceAdd,Nat.reduceMul,Nat.reduceBEq,Int.reduceToNat,Int.reduceEq,Int.reduceNe, *];rfl):P:=h
theorem xSTu{cp:FuncId→Option CF}{lo:Nat}{l:List (Nat×E)}{chk:List E}{Q:Post}{S:List Value}{H:Heap}{vs:List (Nat×Value)}{S':List Value}(k:Q .normal S' H)(h:evSets S H l=some vs:=by exact xETu)(hc:evChk S H chk=true:=by simp(disch:=first|omega|(simp only[lenB];omega))only[evB,xBTu,Nat.reduceAdd,Nat.reduceMul,Nat.reduceBEq,Int.reduceToNat,Int.reduceEq,Int.reduceNe, *])(hS:setAll S vs=S':=by exact xETu):wpS cp lo (.sets l chk) Q S H:=aw_sets h hc hS k
theorem xHTu{cp:FuncId→Option CF}{lo:Nat}{l:List (Nat×E)}{chk:List E}{Q:Post}{S:List Value}{H:Heap}{vs:List (Nat×Value)}{dst:Option Nat}{o:HOp}{a:E}{xs:List Value}(k:wpH cp lo o xs H fun v H'=>Q .normal (setD (setAll S vs) dst v) H')(h:evSets S H l=some vs:=by exact xETu)(hc:evChk S H chk=true:=by simp(disch:=first|omega|(simp only[lenB];omega))only[evB,xBTu,Nat.reduceAdd,Nat.reduceMul,Nat.reduceBEq,Int.reduceToNat,Int.reduceEq,Int.reduceNe, *])(ha:ev S H a=some xs:=by exact xETu):wpS cp lo (.hv l chk [] dst o a) Q S H:=aw_hv h hc ha k
theorem xOTu{cp:FuncId→Option CF}{lo:Nat}{l:List (Nat×E)}{chk:List E}{Q:Post}{S:List Value}{H:Heap}{vs:List (Nat×Value)}{dst:Option Nat}{o:HOp}{a:E}{xs:List Value}{S':List Value}{H':Heap}{v:Value}(hcall:o.isCall=false)(k:Q .normal S' H')(h:evSets S H l=some vs:=by exact xETu)(hc:evChk S H chk=true:=by simp(disch:=first|omega|(simp only[lenB];omega))only[evB,xBTu,Nat.reduceAdd,Nat.reduceMul,Nat.reduceBEq,Int.reduceToNat,Int.reduceEq,Int.reduceNe, *])(ha:ev S H a=some xs:=by exact xETu)(ho:hsem0 lo o xs H=some (v,H'):=by exact xETu)(hS:setD (setAll S vs) dst v=S':=by exact xETu):wpS cp lo (.hv l chk [] dst o a) Q S H:=aw_op hcall h hc ha ho hS k
theorem xTTu{cp:FuncId→Option CF}{lo:Nat}{l:List (Nat×E)}{chk:List E}{Q:Post}{S:List Value}{H:Heap}{vs:List (Nat×Value)}{dst:Option Nat}{o:HOp}{a:E}{xs:List Value}{pc:PC}(k:wpH cp lo o xs H fun v H'=>Q .normal (setD (setAll S vs) dst v) H')(h:evSets S H l=some vs:=by exact xETu)(hc:evChk S H chk=true:=by simp(disch:=first|omega|(simp only[lenB];omega))only[evB,xBTu,Nat.reduceAdd,Nat.reduceMul,Nat.reduceBEq,Int.reduceToNat,Int.reduceEq,Int.reduceNe, *])(hp:holds S H pc=some true:=by simp(disch:=first|omega|(simp only[lenB];omega))only[evB,xBTu,Nat.reduceAdd,Nat.reduceMul,Nat.reduceBEq,Int.reduceToNat,Int.reduceEq,Int.reduceNe, *];try rfl)(ha:ev S H a=some xs:=by exact xETu):wpS cp lo (.hv l chk pc dst o a) Q S H:=aw_hvT h hc hp ha k
theorem xUTu{cp:FuncId→Option CF}{lo:Nat}{l:List (Nat×E)}{chk:List E}{Q:Post}{S:List Value}{H:Heap}{vs:List (Nat×Value)}{dst:Option Nat}{o:HOp}{a:E}{xs:List Value}{pc:PC}{S':List Value}{H':Heap}{v:Value}(hcall:o.isCall=false)(k:Q .normal S' H')(h:evSets S H l=some vs:=by exact xETu)(hc:evChk S H chk=true:=by simp(disch:=first|omega|(simp only[lenB];omega))only[evB,xBTu,Nat.reduceAdd,Nat.reduceMul,Nat.reduceBEq,Int.reduceToNat,Int.reduceEq,Int.reduceNe, *])(hp:holds S H pc=some true:=by simp(disch:=first|omega|(simp only[lenB];omega))only[evB,xBTu,Nat.reduceAdd,Nat.reduceMul,Nat.reduceBEq,Int.reduceToNat,Int.reduceEq,Int.reduceNe, *];try rfl)(ha:ev S H a=some xs:=by exact xETu)(ho:hsem0 lo o xs H=some (v,H'):=by exact xETu)(hS:setD (setAll S vs) dst v=S':=by exact xETu):wpS cp lo (.hv l chk pc dst o a) Q S H:=aw_opT hcall h hc hp ha ho hS k
theorem xRTu{cf:CF}{R:Value→Heap→Prop}{S:List Value}{H:Heap}{vs:List Value}(k:R (resultOf vs) H)(h:evList S H cf.res=some vs:=by exact xETu):bodyQ cf R .ret S H:=body_ret h k
theorem exampleP{lo:Nat}{H:Heap}(hlo:lo≤H.length)(ht:H.get 0=some pow10V) :
  Ev cpx lo 12 [] H (fun r H'=>Ext H H'∧r=.bool true):=by
 have hN:=numericP (lo:=lo) (H:=H) (l:=exD) hlo (by simp[exD])
 rw[ex_num]at hN
 refine xt12 ?_
 unfold bd12 cf12
 simp only[kB,ctlB]
 repeat' ((first|refine xSTu ?_|refine xOTu rfl ?_);(try simp only[ctlB]))
 refine xHTu ?_
 refine wpH_call0 (hN.sub sub_cpx) ?_
 rintro r K1 ⟨hx1,u1,rfl,hu1⟩
 have ht1:=hx1.get ht
 have hl1:=hx1.1
 have hF:Ev cpx lo 15 [.slice (some ⟨K1.length,0,none⟩) 1 1] (K1++[some [.int .i64 112]]) (fun r H'=>Ext (K1++[some [.int .i64 112]]) H'∧r=.tuple #[strV [49,50],.int .i64 0]):=by
  have:=fnumP (lo:=lo) (H:=K1++[some [.int .i64 112]]) (v:=.slice (some ⟨K1.length,0,none⟩) 1 1) (l:=[112]) (by simp;omega) (.inr ⟨K1.length,0,none,1,_,rfl,get_app0,rfl,by simp,.inl rfl,by simp⟩) ((Ext.app K1 _).get ht1)
  rw[ex_from]at this
  exact this
 clear hN
 (try simp only[ctlB])
 repeat' ((first|refine xSTu ?_|refine xOTu rfl ?_);(try simp only[ctlB]))
 refine xHTu ?_
 refine wpH_call0 hF ?_
 clear hF
 rintro r K2 ⟨hx2,rfl⟩
 have hx12:=(hx1.trans (Ext.app K1 _)).trans hx2
 have hu2:=(hu1.mono (Ext.app K1 _)).mono hx2
 have ht2:=hx12.get ht
 have hl2:=hx12.1
 clear hu1 hx2 hx1 ht1 hl1
 have hE:=encodeP (lo:=lo) (p:=exP) (H:=K2++[some [.int .u8 65,.int .u8 66,.int .u8 97]]) (v:=.slice (some ⟨K2.length,0,none⟩) 3 3) (fun {H0 lo B pv F}=>noDigP ex_nodig (by simp[exP])) (by simp;omega) (.inr ⟨K2.length,0,none,3,_,rfl,get_app0,rfl,by simp[exP],.inl rfl,by simp[exP]⟩) (by simp[exP])
 (try simp only[ctlB])
 repeat' ((first|refine xSTu ?_|refine xOTu rfl ?_);(try simp only[ctlB]))
 refine xHTu ?_
 refine wpH_call0 (hE.sub sub_cpx) ?_
 clear hE
 rintro r K3 ⟨hx3,u3,ws,T,rfl,hu3,-,-,-,hb⟩
 have hws:=hb.uniq ex_best
 subst hws
 have hx13:=(hx12.trans (Ext.app K2 _)).trans hx3
 have hu23:=(hu2.mono (Ext.app K2 _)).mono hx3
 have ht3:=hx13.get ht
 have hl3:=hx13.1
 clear hu2 hx3 hx12 ht2 hl2 hb
 have hL:=lengthP (lo:=lo) (p:=exP) (H:=K3++[some [.int .u8 65,.int .u8 66,.int .u8 97]]) (v:=.slice (some ⟨K3.length,0,none⟩) 3 3) (fun {H0 lo B pv F}=>noDigP ex_nodig (by simp[exP])) (by simp;omega) (.inr ⟨K3.length,0,none,3,_,rfl,get_app0,rfl,by simp[exP],.inl rfl,by simp[exP]⟩) (by simp[exP])
 (try simp only[ctlB])
 repeat' ((first|refine xSTu ?_|refine xOTu rfl ?_);(try simp only[ctlB]))
 refine xHTu ?_
 refine wpH_call0 (hL.sub sub_cpx) ?_
 clear hL
 rintro r K4 ⟨hx4,ws,T,rfl,-,-,-,hb⟩
 have hws:=hb.uniq ex_best
 subst hws
 have hx14:=(hx13.trans (Ext.app K3 _)).trans hx4
 have hu34:=(hu3.mono (Ext.app K3 _)).mono hx4
 have hu24:=(hu23.mono (Ext.app K3 _)).mono hx4
 have ht4:=hx14.get ht
 have hl4:=hx14.1
 clear hu3 hu23 hx4 hx13 ht3 hl3 hb
 (try simp only[ctlB])
 repeat' ((first|refine xSTu ?_|refine xOTu rfl ?_);(try simp only[ctlB]))
 have e12:∀G:Heap,lsem (.bin .neq) [strV [49,50],.string ⟨#[49,50]⟩] G=some (.bool false):=fun G=>ls_sne G [49,50] [49,50]
 have ez:decide ((0:Int)≠0)=false:=rfl
 have ez2:decide ((2:Int)≠2)=false:=rfl
 (refine xUTu rfl ?_;(try simp only[ctlB]))
 have hq1:=lsameP (lo:=lo) (H:=K4++[some [.int .i64 1,.int .i64 810]]) (v:=u3) (w:=.slice (some ⟨K4.length,0,none⟩) 2 2) (l:=[1,810]) (m:=[1,810]) (by simp;omega) (by simp) (hu34.mono (Ext.app K4 _)) (.inr ⟨K4.length,0,none,2,_,rfl,get_app0,rfl,by simp,.inl rfl,by simp⟩)
 rw[show decide (([1,810]:List Nat)=[1,810])=true from rfl]at hq1
 have hu5:=hu24.mono (Ext.app K4 [some [.int .i64 1,.int .i64 810]])
 have hx5:=hx14.trans (Ext.app K4 [some [.int .i64 1,.int .i64 810]])
 have hl5:lo≤(K4++[some [Value.int .i64 1,.int .i64 810]]).length:=by simp;omega
 generalize K4++[some [Value.int .i64 1,.int .i64 810]]=K5 at *
 clear hu34 hu24 hx14 ht4
 refine xTTu ?_
 refine wpH_call0 (hq1.sub sub_cpx) ?_
 clear hq1
 rintro r K6 ⟨rfl,rfl⟩
 (try simp only[ctlB])
 (refine xUTu rfl ?_;(try simp only[ctlB]))
 have hq2:=lsameP (lo:=lo) (H:=K6++[some [.int .i64 1,.int .i64 624,.int .i64 434,.int .i64 632,.int .i64 282,.int .i64 200]]) (v:=u1) (w:=.slice (some ⟨K6.length,0,none⟩) 6 6) (l:=[1,624,434,632,282,200]) (m:=[1,624,434,632,282,200]) (by simp;omega) (by simp) (hu5.mono (Ext.app K6 _)) (.inr ⟨K6.length,0,none,6,_,rfl,get_app0,rfl,by simp,.inl rfl,by simp⟩)
 rw[show decide (([1,624,434,632,282,200]:List Nat)=[1,624,434,632,282,200])=true from rfl]at hq2
 have hx7:=hx5.trans (Ext.app K6 [some [.int .i64 1,.int .i64 624,.int .i64 434,.int .i64 632,.int .i64 282,.int .i64 200]])
 have hl7:lo≤(K6++[some [Value.int .i64 1,.int .i64 624,.int .i64 434,.int .i64 632,.int .i64 282,.int .i64 200]]).length:=by simp;omega
 generalize K6++[some [Value.int .i64 1,.int .i64 624,.int .i64 434,.int .i64 632,.int .i64 282,.int .i64 200]]=K7 at *
 clear hu5 hx5 hl5
 refine xTTu ?_
 refine wpH_call0 (hq2.sub sub_cpx) ?_
 clear hq2
 rintro r K8 ⟨rfl,rfl⟩
 (try simp only[ctlB])
 (refine aw_cond (t:=false) (by simp(disch:=first|omega|(simp only[lenB];omega))only[evB,xBTu,Nat.reduceAdd,Nat.reduceMul,Nat.reduceBEq,Int.reduceToNat,Int.reduceEq,Int.reduceNe, *];try rfl) (fun h=>by cases h) (fun h=>?_);clear h;(try simp only[ctlB]))
 have hr1:=readsP (lo:=lo) (H:=K8++[some [.int .i64 924,.int .i64 387,.int .i64 700,.int .i64 208,.int .i64 213,.int .i64 302]]) (v:=.slice (some ⟨K8.length,0,none⟩) 6 6) (l:=[924,387,700,208,213,302]) (s:=[231,101,11,97,205,2]) (by simp;omega) (.inr ⟨K8.length,0,none,6,_,rfl,get_app0,rfl,by simp,.inl rfl,by simp⟩) ((hx7.trans (Ext.app K8 _)).get ht) (by simp)
 rw[ex_dec1,show decide ((([231,101,11,97,205,2],0):List UInt8×Nat).1=[231,101,11,97,205,2]∧(([231,101,11,97,205,2],0):List UInt8×Nat).2=0)=true from by simp]at hr1
 have hxa1:=hx7.trans (Ext.app K8 [some [.int .i64 924,.int .i64 387,.int .i64 700,.int .i64 208,.int .i64 213,.int .i64 302]])
 repeat' ((first|refine xSTu ?_|refine xOTu rfl ?_);(try simp only[ctlB]))
 refine xHTu ?_
 refine wpH_call0 hr1 ?_
 clear hr1
 rintro r R1 ⟨hxr1,rfl⟩
 have hxb1:=hxa1.trans hxr1
 have hlb1:=hxb1.1
 clear hxa1 hxr1 hx7
 (try simp only[ctlB])
 have hr2:=readsP (lo:=lo) (H:=R1++[some [.int .i64 901,.int .i64 65]]) (v:=.slice (some ⟨R1.length,0,none⟩) 2 2) (l:=[901,65]) (s:=[65]) (by simp;omega) (.inr ⟨R1.length,0,none,2,_,rfl,get_app0,rfl,by simp,.inl rfl,by simp⟩) ((hxb1.trans (Ext.app R1 _)).get ht) (by simp)
 rw[ex_dec2,show decide ((([65],0):List UInt8×Nat).1=[65]∧(([65],0):List UInt8×Nat).2=0)=true from by simp]at hr2
 have hxa2:=hxb1.trans (Ext.app R1 [some [.int .i64 901,.int .i64 65]])
 (refine xUTu rfl ?_;(try simp only[ctlB]))
 refine xTTu ?_
 refine wpH_call0 hr2 ?_
 clear hr2
 rintro r R2 ⟨hxr2,rfl⟩
 have hxb2:=hxa2.trans hxr2
 have hlb2:=hxb2.1
 clear hxa2 hxr2 hxb1
 (try simp only[ctlB])
 have hr3:=readsP (lo:=lo) (H:=R2++[some [.int .i64 901,.int .i64 1,.int .i64 2,.int .i64 3,.int .i64 4,.int .i64 5]]) (v:=.slice (some ⟨R2.length,0,none⟩) 6 6) (l:=[901,1,2,3,4,5]) (s:=[1,2,3,4,5]) (by simp;omega) (.inr ⟨R2.length,0,none,6,_,rfl,get_app0,rfl,by simp,.inl rfl,by simp⟩) ((hxb2.trans (Ext.app R2 _)).get ht) (by simp)
 rw[ex_dec3,show decide ((([1,2,3,4,5],0):List UInt8×Nat).1=[1,2,3,4,5]∧(([1,2,3,4,5],0):List UInt8×Nat).2=0)=true from by simp]at hr3
 have hxa3:=hxb2.trans (Ext.app R2 [some [.int .i64 901,.int .i64 1,.int .i64 2,.int .i64 3,.int .i64 4,.int .i64 5]])
 (refine xUTu rfl ?_;(try simp only[ctlB]))
 refine xTTu ?_
 refine wpH_call0 hr3 ?_
 clear hr3
 rintro r R3 ⟨hxr3,rfl⟩
 have hxb3:=hxa3.trans hxr3
 have hlb3:=hxb3.1
 clear hxa3 hxr3 hxb2
 (try simp only[ctlB])
 have hr4:=readsP (lo:=lo) (H:=R3++[some [.int .i64 870]]) (v:=.slice (some ⟨R3.length,0,none⟩) 1 1) (l:=[870]) (s:=[59]) (by simp;omega) (.inr ⟨R3.length,0,none,1,_,rfl,get_app0,rfl,by simp,.inl rfl,by simp⟩) ((hxb3.trans (Ext.app R3 _)).get ht) (by simp)
 rw[ex_dec4,show decide ((([59],0):List UInt8×Nat).1=[59]∧(([59],0):List UInt8×Nat).2=0)=true from by simp]at hr4
 have hxa4:=hxb3.trans (Ext.app R3 [some [.int .i64 870]])
 (refine xUTu rfl ?_;(try simp only[ctlB]))
 refine xTTu ?_
 refine wpH_call0 hr4 ?_
 clear hr4
 rintro r R4 ⟨hxr4,rfl⟩
 have hxb4:=hxa4.trans hxr4
 have hlb4:=hxb4.1
 clear hxa4 hxr4 hxb3
 (try simp only[ctlB])
 repeat' ((first|refine xSTu ?_|refine xOTu rfl ?_);(try simp only[ctlB]))
 refine xRTu ?_
 exact⟨hxb4,rfl⟩
theorem own:ownKnob Tryd.prog.godebug=none:=by kernel_rfl
theorem laidOut:laidOutB Tryd.prog=true:=by kernel_rfl
theorem fourGlobals:Tryd.prog.globals.size=4:=by kernel_rfl
def powT:List Int:=[1,10,100,1000,10000,100000,1000000,10000000,100000000,1000000000,10000000000,100000000000,1000000000000,10000000000000,100000000000000,1000000000000000,10000000000000000,100000000000000000,1000000000000000000,10000000000000000000]
theorem pow_eq:powT.map (Value.int .u64)=pow10V:=by kernel_rfl
def gaV:List (Option (List Value)):=[some (powT.map (Value.int .u64)),none,none,none]
abbrev lds : List (String × DataW Unit) := [("math/bits.deBruijn32tab", Rows.laid_math_bits_deBruijn32tab), ("math/bits.deBruijn64tab", Rows.laid_math_bits_deBruijn64tab), ("internal/strconv.uint64pow10", Rows.laid_internal_strconv_uint64pow10)]
theorem powG : Tryd.prog.globalNamed "internal/strconv.uint64pow10" = some 0 := by kernel_rfl
theorem known{W:World}(hL:laidMetH Tryd.prog lds W):Known gaV W:=by
 intro g c hg
 match g,hg with
 | 0,hg=>
  simp[gaV]at hg;subst hg
  refine⟨by decide,?_⟩
  exact laid_ints (name := "internal/strconv.uint64pow10") (l := powT) (t := 165) (n := 20) (e := 138) hL (by rfl) powG (by kernel_rfl) (by kernel_rfl) (by kernel_rfl) (by kernel_rfl) (by kernel_rfl)
 | 1,hg=>simp[gaV]at hg
 | 2,hg=>simp[gaV]at hg
 | 3,hg=>simp[gaV]at hg
 | g+4,hg=>simp[gaV]at hg
theorem sizeG{W:World}(hL:laidMetH Tryd.prog lds W):Tryd.prog.globals.size≤W.heap.size:=by
 have := laid_size (name := "math/bits.deBruijn64tab") (g := 3) hL (by rfl) (by rfl) (by kernel_rfl)
 rw[fourGlobals];omega
theorem laidWorld(os:Os)(args:Array Value):laidMetH Tryd.prog lds ((World.laidAll Tryd.prog os lds).forCall (fun _ _=>0) ⟨#[],args,[]⟩).memory:=
 laidMetH_iff.2 ⟨laidMet_laidAll args (by kernel_rfl) (by kernel_rfl),fun x hx=>by simp[DataW.handleName?,Rows.laid_math_bits_deBruijn32tab,Rows.laid_math_bits_deBruijn64tab,Rows.laid_internal_strconv_uint64pow10]at hx⟩
theorem first{H:Heap}(h:Longer gaV H):H.get 0=some pow10V:=by
 rw[←pow_eq]
 obtain⟨r,rfl⟩:=h
 rfl
theorem ints_of{B:Nat}{H:Heap}{v:Value}(h:HasArg B H (.sl (.int .i64)) v):∃l:List Int,SlI H v l:=by
 simp only[HasArg]at h
 obtain⟨l,h1,_⟩:=has_slI h
 exact⟨l,h1⟩
theorem u8_of{l:List Int}(h:∀x ∈ l,IntKind.u8.min≤x∧x≤IntKind.u8.max):∃r:List UInt8,l.map (Value.int .u8)=r.map encU∧r.length=l.length:=by
 refine⟨l.map (fun x=>UInt8.ofNat x.toNat),?_,by simp⟩
 rw[List.map_map]
 refine List.map_congr_left fun x hx=>?_
 have hm:IntKind.u8.min=0:=by decide
 have hM:IntKind.u8.max=255:=by decide
 have:=h x hx
 rw[hm,hM]at this
 show Value.int .u8 x=.int .u8 ((UInt8.ofNat x.toNat).toNat:Nat)
 rw[UInt8.toNat_ofNat_of_lt' (by show x.toNat<256;omega)]
 congr 1;omega
theorem has_slU{B:Nat}{H:Heap}{v:Value}(h:Has B H (.sl (.int .u8)) [v]):∃l:List UInt8,Sl encU H v l∧l.length≤B:=by
 simp only[Has]at h
 rcases h with h|⟨i,len,cap,c,h1,h2,h3,h4,h5,h6⟩
 ·cases h
  exact⟨[],.inl ⟨rfl,rfl⟩,by simp⟩
 ·cases h1
  obtain⟨xs,hl,rfl,hr⟩:=hasN_int (B:=B) (H:=H) _ _ h6
  obtain⟨us,e,hul⟩:=u8_of hr
  have hlen:(us.take len).length=len:=by simp;omega
  exact⟨us.take len,.inr ⟨i,0,none,cap,_,by rw[hlen],h5,by rw[List.drop_zero,hlen,e,List.map_take],by simp;omega,.inl rfl,by simp;omega⟩,by omega⟩
theorem bytes_of{B:Nat}{H:Heap}{v:Value}(h:HasArg B H (.sl (.int .u8)) v):∃l:List UInt8,Sl encU H v l:=by
 simp only[HasArg]at h
 obtain⟨l,h1,_⟩:=has_slU h
 exact⟨l,h1⟩
theorem wantsNone{l:List TypeId}(h:l.all (fun t=>!Tryd.prog.wantsStandIn t)=true){j:Nat}{t:TypeId}(ht:l[j]?=some t):Tryd.prog.wantsStandIn t=false:=by
 have:=List.all_eq_true.1 h t (List.mem_of_getElem? ht)
 simpa using this
end Go.Proofs.YtgpolmomghejoaaDoor
