/- Lemmas. -/
import Derived.Test.YtgpolmomghejoaaDoorN26
set_option linter.unusedVariables false
set_option linter.unusedSimpArgs false
set_option linter.unusedSectionVars false
namespace Go.Proofs.YtgpolmomghejoaaDoor
open Go.Abs
set_option maxRecDepth 20000
theorem decG_900:∀(n m s h:Nat) (out:List UInt8),decG n (List.replicate m 900) s h out=(out,0)
 | 0,m,s,h,out=>by rw[decG]
 | n+1,0,s,h,out=>by rw[List.replicate_zero,decG]
 | n+1,m+1,s,h,out=>by rw[List.replicate_succ,decG_cons,if_neg (by decide),if_pos rfl,decG_900 n m]
theorem u8_arg{B:Nat}{H:Heap}{v:Value}(h:HasArg B H (.int .u8) v):∃k:Nat,v=.int .u8 (k:Nat)∧k≤255:=by
 simp only[HasArg,Has]at h
 obtain⟨n,e,hn⟩:=h
 have hm:IntKind.u8.min=0:=by decide
 have hM:IntKind.u8.max=255:=by decide
 rw[hm,hM]at hn
 have ev:v=.int .u8 n:=by simpa using e
 refine⟨n.toNat,?_,by omega⟩
 rw[ev]
 congr 1;omega
def encI9:Value:=.int .i64 900
def W9(lo A b0:Nat)(K:Heap)(u:Value)(i:Nat):Prop:=(∃b',A≤b'∧b'≠b0∧Own lo 1 K u b' (List.replicate i encI9))∨(i=0∧u=.slice (some ⟨b0,0,none⟩) 0 0)
theorem app_9{cp:FuncId→Option CF}{H0:Heap}{lo b0:Nat}{K:Heap}{u:Value}{i:Nat}{z:List Value}{R:Value→Heap→Prop}(hlo:lo≤K.length)(hx:Ext H0 K)(hb0:K.get b0=some [])(h0:H0.length≤b0)(h:W9 lo H0.length b0 K u i)(hi:i≤100000)
  (k:∀v K4,Ext H0 K4→K4.get b0=some []→W9 lo H0.length b0 K4 v (i+1)→R v K4):wpH cp lo (.app 1 z) [u,.slice (some ⟨K.length,0,none⟩) 1 1] (K++[some [encI9]]) R:=by
 have hxm:Ext K (K++[some [encI9]]):=Ext.app _ _
 have hb0l:=Heap.get_lt hb0
 rcases h with ⟨b',h1,h2,h3⟩|⟨rfl,rfl⟩
 ·refine wpH_app (c:=[encI9]) (c':=[encI9]) (h3.mono hxm) (by simp;omega) (by decide) (by decide) (by simp;omega) get_app0 (by simp) rfl rfl ?_
  intro v K4 ho hk hl
  have hKl:=hx.1
  refine k v K4 (hk.ext (hx.trans hxm) h1) (hk.get (hxm.get hb0) h2.symm) (.inl ⟨(K++[some [encI9]]).length,by simp;omega,by simp;omega,by rw[List.replicate_succ'];exact ho⟩)
 ·have e1:hsem0 lo (.app 1 z) [.slice (some ⟨b0,0,none⟩) 0 0,.slice (some ⟨K.length,0,none⟩) 1 1] (K++[some [encI9]])=some (.slice (some ⟨(K++[some [encI9]]).length,0,some 1⟩) 1 1,(K++[some [encI9]])++[some [encI9]]):=by
   simp only[hsem0,hsem]
   rw[cells_get get_app0 (by simp)]
   simp only[Option.bind_some,List.drop_zero]
   rw[show[encI9].take (1*1)=[encI9] from rfl,show oneCells [encI9]=true from rfl,if_pos rfl]
   have h5:¬ (0+1≤0):=by omega
   have h6:¬ (mostNeed<0+1):=by unfold mostNeed;omega
   simp only[appendSem,h5,h6,if_false]
   rw[cells_get (hxm.get hb0) (by simp)]
   rfl
  simp only[wpH]
  rw[e1]
  have hx2:=hxm.trans (Ext.app (K++[some [encI9]]) [some [encI9]])
  have hKl:=hx.1
  refine k _ _ (hx.trans hx2) (hx2.get hb0) (.inl ⟨(K++[some [encI9]]).length,by simp;omega,by simp;omega,by simp;omega,.inr ⟨1,by omega,rfl,rfl,get_app0⟩⟩)
theorem W9.sl{lo A b0:Nat}{K:Heap}{u:Value}{i:Nat}(h:W9 lo A b0 K u i)(hi:0<i):SlI K u (List.replicate i 900):=by
 rcases h with ⟨b',h1,h2,h3⟩|⟨h,-⟩
 ·refine Sl.ofOwn (b:=b') ?_ (lo:=lo)
  rw[List.map_replicate]
  exact h3
 ·omega
set_option linter.defProp false in
def xBTwc:=And.intro @Int.cast_ofNat_Int (And.intro @ite_self.{1} (And.intro @vcells2 (And.intro @ls_lenS' (And.intro @str_size (And.intro @ls_seq (And.intro @ls_sne (And.intro @ls_idxS' (And.intro @ls_idxS0 (And.intro @ls_slSa (And.intro @ls_slSb (And.intro @ls_slSc (And.intro @ls_sadd @ca1))))))))))))
theorem xETwc{P:Prop}(h:P:=by simp(disch:=first|omega|(simp only[lenB];omega))only[evB,xBTwc,Nat.reduceAdd,Nat.reduceMul,Nat.reduceBEq,Int.reduceToNat,Int.reduceEq,Int.reduceNe, *];rfl):P:=h
theorem xSTwc{cp:FuncId→Option CF}{lo:Nat}{l:List (Nat×E)}{chk:List E}{Q:Post}{S:List Value}{H:Heap}{vs:List (Nat×Value)}{S':List Value}(k:Q .normal S' H)(h:evSets S H l=some vs:=by exact xETwc)(hc:evChk S H chk=true:=by simp(disch:=first|omega|(simp only[lenB];omega))only[evB,xBTwc,Nat.reduceAdd,Nat.reduceMul,Nat.reduceBEq,Int.reduceToNat,Int.reduceEq,Int.reduceNe, *])(hS:setAll S vs=S':=by exact xETwc):wpS cp lo (.sets l chk) Q S H:=aw_sets h hc hS k
theorem xHTwc{cp:FuncId→Option CF}{lo:Nat}{l:List (Nat×E)}{chk:List E}{Q:Post}{S:List Value}{H:Heap}{vs:List (Nat×Value)}{dst:Option Nat}{o:HOp}{a:E}{xs:List Value}(k:wpH cp lo o xs H fun v H'=>Q .normal (setD (setAll S vs) dst v) H')(h:evSets S H l=some vs:=by exact xETwc)(hc:evChk S H chk=true:=by simp(disch:=first|omega|(simp only[lenB];omega))only[evB,xBTwc,Nat.reduceAdd,Nat.reduceMul,Nat.reduceBEq,Int.reduceToNat,Int.reduceEq,Int.reduceNe, *])(ha:ev S H a=some xs:=by exact xETwc):wpS cp lo (.hv l chk [] dst o a) Q S H:=aw_hv h hc ha k
theorem xOTwc{cp:FuncId→Option CF}{lo:Nat}{l:List (Nat×E)}{chk:List E}{Q:Post}{S:List Value}{H:Heap}{vs:List (Nat×Value)}{dst:Option Nat}{o:HOp}{a:E}{xs:List Value}{S':List Value}{H':Heap}{v:Value}(hcall:o.isCall=false)(k:Q .normal S' H')(h:evSets S H l=some vs:=by exact xETwc)(hc:evChk S H chk=true:=by simp(disch:=first|omega|(simp only[lenB];omega))only[evB,xBTwc,Nat.reduceAdd,Nat.reduceMul,Nat.reduceBEq,Int.reduceToNat,Int.reduceEq,Int.reduceNe, *])(ha:ev S H a=some xs:=by exact xETwc)(ho:hsem0 lo o xs H=some (v,H'):=by exact xETwc)(hS:setD (setAll S vs) dst v=S':=by exact xETwc):wpS cp lo (.hv l chk [] dst o a) Q S H:=aw_op hcall h hc ha ho hS k
theorem xCTwc{cp:FuncId→Option CF}{lo:Nat}{c:E}{a b:Stm}{Q:Post}{S:List Value}{H:Heap}{t:Bool}(k1:t=true→wpS cp lo a Q S H)(k2:t=false→wpS cp lo b Q S H)(h:ev1 S H c=some (.bool t):=by exact xETwc):wpS cp lo (.cond c a b) Q S H:=aw_cond h k1 k2
theorem xTTwc{cp:FuncId→Option CF}{lo:Nat}{l:List (Nat×E)}{chk:List E}{Q:Post}{S:List Value}{H:Heap}{vs:List (Nat×Value)}{dst:Option Nat}{o:HOp}{a:E}{xs:List Value}{pc:PC}(k:wpH cp lo o xs H fun v H'=>Q .normal (setD (setAll S vs) dst v) H')(h:evSets S H l=some vs:=by exact xETwc)(hc:evChk S H chk=true:=by simp(disch:=first|omega|(simp only[lenB];omega))only[evB,xBTwc,Nat.reduceAdd,Nat.reduceMul,Nat.reduceBEq,Int.reduceToNat,Int.reduceEq,Int.reduceNe, *])(hp:holds S H pc=some true:=by simp(disch:=first|omega|(simp only[lenB];omega))only[evB,xBTwc,Nat.reduceAdd,Nat.reduceMul,Nat.reduceBEq,Int.reduceToNat,Int.reduceEq,Int.reduceNe, *];try rfl)(ha:ev S H a=some xs:=by exact xETwc):wpS cp lo (.hv l chk pc dst o a) Q S H:=aw_hvT h hc hp ha k
theorem xRTwc{cf:CF}{R:Value→Heap→Prop}{S:List Value}{H:Heap}{vs:List Value}(k:R (resultOf vs) H)(h:evList S H cf.res=some vs:=by exact xETwc):bodyQ cf R .ret S H:=body_ret h k
theorem lawLimP{H:Heap}{n:Nat}(hn:n≤255)(ht:H.get 0=some pow10V) :
  Ev cpx H.length 6 [.int .u8 (n:Nat)] H (fun r _=>r=.bool true):=by
 refine xt6 ?_
 unfold bd6 cf6
 simp only[kB,ctlB]
 repeat' ((first|refine xSTwc ?_|refine xOTwc rfl ?_);(try simp only[ctlB]))
 have e1:Value.string ⟨#[55]⟩=strV (List.replicate (2^0) 55):=rfl
 rw[e1]
 clear e1
 have e6:Value.string ⟨#[48,48,48,48,48,48]⟩=strV (List.replicate 6 48):=rfl
 refine aw_midXB (fun S K=>H=K∧∃j,j=12∧∃(z:Nat→Value),S=[.int .u8 (n:Nat),z 1,strV (List.replicate (2^j) 55),z 3,z 4,z 5,z 6,z 7,z 8,z 9,z 10,z 11,z 12,z 13,z 14,z 15,z 16,z 17,z 18,z 19,z 20,z 21,z 22,z 23,z 24,z 25,z 26,z 27]) ?_ ?_
 ·refine aw_loop' (fun m S K=>H=K∧∃j,m+j=12∧∃(z:Nat→Value),S=[.int .u8 (n:Nat),z 1,strV (List.replicate (2^j) 55),z 3,z 4,z 5,z 6,z 7,z 8,z 9,z 10,z 11,z 12,z 13,z 14,z 15,z 16,z 17,z 18,z 19,z 20,z 21,z 22,z 23,z 24,z 25,z 26,z 27]) 12 ?_ ?_
  ·exact⟨rfl,0,rfl,exZSb rfl⟩
  rintro m S K ⟨rfl,j,hj,z,rfl⟩
  by_cases hj12:j<12
  ·have h2:2^j≤2^11:=Nat.pow_le_pow_right (by decide) (by omega)
   have hd:List.replicate (2^(j+1)) (55:UInt8)=List.replicate (2^j) (55:UInt8)++List.replicate (2^j) 55:=by
    rw[List.replicate_append_replicate];congr 1;rw[Nat.pow_succ];omega
   replace hd:False∨_:=.inr hd
   generalize 2^j=P at *
   have hP:P≤2048:=h2
   clear h2
   have hPP:∀G:Heap,lsem (.bin .add) [strV (List.replicate P 55),strV (List.replicate P 55)] G=some (strV (List.replicate P 55++List.replicate P 55)):=fun G=>ls_sadd (by simp;omega)
   (try simp only[ctlB])
   refine xCTwc (fun h=>?_) (fun h=>?_)
   ·clear h
    (try simp only[ctlB])
    repeat' ((first|refine xSTwc ?_|refine xOTwc rfl ?_);(try simp only[ctlB]))
    simp only[loopQ_n]
    exact⟨m-1,by omega,by trivial,j+1,by omega,exZSb (by rw[hd.resolve_left id];rfl)⟩
   ·exfalso;first|cases h|(simp only[decide_eq_false_iff_not]at h;omega)
  ·have ej:j=12:=by omega
   subst ej
   (try simp only[ctlB])
   refine xCTwc (fun h=>?_) (fun h=>?_)
   ·exfalso;first|cases h|(simp only[decide_eq_true_eq]at h;omega)
   clear h
   (try simp only[ctlB])
   exact⟨by trivial,12,rfl,exZSb rfl⟩
 rintro S K ⟨rfl,j,rfl,z,rfl⟩
 have eb:List.replicate (2^12) (55:UInt8)=List.replicate 4096 55:=rfl
 rw[eb]
 clear eb
 have ecut:∀G:Heap,lsem (.slS false true) [strV (List.replicate 4096 55),.int .i64 4096] G=some (strV (List.replicate 4096 55)):=fun G=>by
  have:=ls_slSb (H:=G) (l:=List.replicate 4096 (55:UInt8)) (k:=.i64) (b:=4096) (by simp)
  rw[List.take_replicate,Nat.min_self]at this
  exact this
 have em6:((n:Nat):Int).tmod 6=((n%6:Nat):Int):=rfl
 obtain⟨k,hk⟩:∃k,n%6=k:=⟨_,rfl⟩
 have hk6:k<6:=by omega
 rw[hk]at em6
 clear hk
 have etk:∀G:Heap,lsem (.slS false true) [.string ⟨#[48,48,48,48,48,48]⟩,.int .i64 ((k:Nat):Int)] G=some (strV (List.replicate k 48)):=fun G=>by
  rw[e6]
  have:=ls_slSb (H:=G) (l:=List.replicate 6 (48:UInt8)) (k:=.i64) (b:=k) (by simp;omega)
  rw[List.take_replicate,Nat.min_eq_left (by omega)]at this
  exact this
 clear e6
 have hs7:(List.replicate 4096 (55:UInt8)).length=4096:=by simp
 have hs0:(List.replicate k (48:UInt8)).length=k:=by simp
 have hall:∀b ∈ List.replicate 4096 (55:UInt8)++List.replicate k 48,isDg b=true:=fun b hb=>by
  rcases List.mem_append.1 hb with hb|hb
  ·rw[(List.mem_replicate.1 hb).2];rfl
  ·rw[(List.mem_replicate.1 hb).2];rfl
 have hlt:(List.replicate 4096 (55:UInt8)++List.replicate k 48).length=4096+k:=by rw[List.length_append,hs7,hs0]
 have hN:=(numericP (lo:=H.length) (H:=H) (l:=List.replicate 4096 (55:UInt8)++List.replicate k 48) (Nat.le_refl _) (by omega)).sub sub_cpx
 obtain⟨e5,he5,hq5⟩:∃e5:Nat,(numericT (List.replicate 4096 (55:UInt8)++List.replicate k 48)).2=e5∧decide (((e5:Nat):Int)=4)=decide (((k:Nat):Int)>0):=by
  refine⟨_,rfl,?_⟩
  unfold numericT
  by_cases hk0:0<k
  ·rw[if_pos (by omega)];simp;omega
  ·rw[if_neg (by omega),if_pos (List.all_eq_true.2 hall)];simp;omega
 replace hall:False∨_:=.inr hall
 replace hlt:False∨_:=.inr hlt
 replace he5:False∨_:=.inr he5
 clear hall
 generalize List.replicate 4096 (55:UInt8)=S7 at *
 generalize List.replicate k (48:UInt8)=S0 at *
 (try simp only[ctlB])
 repeat' ((first|refine xSTwc ?_|refine xOTwc rfl ?_);(try simp only[ctlB]))
 have hadd:∀G:Heap,lsem (.bin .add) [strV S7,strV S0] G=some (strV (S7++S0)):=fun G=>ls_sadd (by omega)
 refine xHTwc ?_
 refine wpH_call0 hN ?_
 rintro r K1 ⟨hx1,u1,rfl,hu1⟩
 rw[he5.resolve_left id]
 have hl1:=hx1.1
 clear hN hu1
 (try simp only[ctlB])
 repeat' ((first|refine xSTwc ?_|refine xOTwc rfl ?_);(try simp only[ctlB]))
 have hxG:Ext K1 (K1++[some []]):=Ext.app _ _
 have hg0:Heap.get (K1++[some []]) K1.length=some []:=get_app0
 have hxH:=hx1.trans hxG
 generalize K1++[some []]=G at *
 have e900:Value.int .i64 900=encI9:=rfl
 refine aw_for (fun i S K=>Ext H K∧K.get K1.length=some []∧∃u,W9 H.length H.length K1.length K u i∧∃(z:Nat→Value),S=[.int .u8 (n:Nat),z 1,strV S7,.int .i64 (k:Nat),strV S0,.int .i64 (e5:Nat),u,.int .i64 (i:Nat),z 8,z 9,z 10,z 11,z 12,z 13,z 14,z 15,z 16,z 17,z 18,z 19,z 20,z 21,z 22,z 23,z 24,z 25,z 26,z 27]) (8189+k) ?_ ?_ ?_ ?_
 ·exact⟨hxH,hg0,_,.inr ⟨rfl,rfl⟩,exZSb rfl⟩
 ·rintro i S K hi ⟨hx,hg,u,-,z,rfl⟩
  exact⟨_,xETwc,by simp;omega⟩
 ·clear hxG hg0 hxH
  rintro i S K hi ⟨hx,hg,u,hW,z,rfl⟩
  have hxl:=hx.1
  (try simp only[ctlB])
  repeat' ((first|refine xSTwc ?_|refine xOTwc rfl ?_);(try simp only[ctlB]))
  refine xHTwc ?_
  refine app_9 (H0:=H) hxl hx hg hl1 hW (by omega) ?_
  intro v4 K4 hx4 hg4 hW4
  (try simp only[ctlB])
  repeat' ((first|refine xSTwc ?_|refine xOTwc rfl ?_);(try simp only[ctlB]))
  exact⟨hx4,hg4,v4,hW4,exZSb rfl⟩
 clear hxG hg0 hxH e900
 rintro S K ⟨hx,-,u,hW,z,rfl⟩
 have hSl:=hW.sl (by omega)
 have hxl:=hx.1
 have htK:=hx.get ht
 have hD:=decodeP (lo:=H.length) (H:=K) (l:=List.replicate (8189+k) 900) hxl hSl htK
 obtain⟨e9,he9,hq9,hq9b⟩:∃e9:Nat,decT (List.replicate (8189+k) 900)=([],e9)∧decide (((e9:Nat):Int)=4)=decide (((k:Nat):Int)>3)∧decide (((e9:Nat):Int)=0)=decide (((k:Nat):Int)≤3):=by
  rw[decT_eq,List.length_replicate]
  by_cases hk3:3<k
  ·rw[if_pos (by omega)]
   exact⟨4,rfl,by simp;omega,by simp;omega⟩
  ·rw[if_neg (by omega),if_pos,List.map_replicate]
   ·exact⟨0,decG_900 _ _ _ _ _,by simp;omega,by simp;omega⟩
   ·rw[List.all_eq_true]
    intro w hw
    rw[(List.mem_replicate.1 hw).2]
    rfl
 rw[he9]at hD
 clear he9 hW
 (try simp only[ctlB])
 refine xHTwc ?_
 refine wpH_call0 hD ?_
 rintro r K2 ⟨hx2,u2,rfl,hu2⟩
 simp only at hu2
 obtain⟨a2,c2,rfl⟩:=hu2.len
 have hx12:=hx.trans hx2
 have hl2:=hx12.1
 have ht2:=hx12.get ht
 have hF:=fnumP (lo:=H.length) (H:=K2) (l:=List.replicate (8189+k) 900) hl2 (hSl.mono hx2) ht2
 obtain⟨e10,he10,hq10,hq10b⟩:∃e10:Nat,fromR (List.replicate (8189+k) 900)=([],(e10:Int))∧decide (((e10:Nat):Int)=4)=decide (((k:Nat):Int)>3)∧decide (((e10:Nat):Int)=3)=decide (((k:Nat):Int)≤3):=by
  unfold fromR
  rw[List.length_replicate]
  by_cases hk3:3<k
  ·rw[if_pos (by omega)]
   exact⟨4,rfl,by simp;omega,by simp;omega⟩
  ·rw[if_neg (by omega),if_neg]
   ·exact⟨3,rfl,by simp;omega,by simp;omega⟩
   ·rw[List.all_eq_true]
    intro h
    have:=h 900 (List.mem_replicate.2 ⟨by omega,rfl⟩)
    exact absurd this (by decide)
 rw[he10]at hF
 simp only at hF
 clear he10 hSl hD hu2
 (try simp only[ctlB])
 repeat' ((first|refine xSTwc ?_|refine xOTwc rfl ?_);(try simp only[ctlB]))
 refine xHTwc ?_
 refine wpH_call0 hF ?_
 rintro r K3 ⟨hx3,rfl⟩
 have hx13:=hx12.trans hx3
 have hl3:=hx13.1
 clear hF hx3 hx12 hl2 ht2
 (try simp only[ctlB])
 repeat' ((first|refine xSTwc ?_|refine xOTwc rfl ?_);(try simp only[ctlB]))
 refine xHTwc ?_
 refine wpH_appStr (A:=H.length) (b:=H.length) (l:=[]) (m:=S7) hl3 (Nat.le_refl _) hl3 (Own.nil (Nat.le_refl _)) (by simp;omega) ?_
 intro v4 K4 b4 hb4 ho4 hk4
 have hx14:=hk4.ext hx13 (Nat.le_refl _)
 rw[List.nil_append]at ho4
 have hl4:=hx14.1
 clear hk4 hx13 hl3
 (try simp only[ctlB])
 repeat' ((first|refine xSTwc ?_|refine xOTwc rfl ?_);(try simp only[ctlB]))
 refine xHTwc ?_
 refine wpH_appStr (A:=H.length) (b:=b4) (l:=S7) (m:=S0) hl4 hb4 hl4 ho4 (by omega) ?_
 intro v5 K5 b5 hb5 ho5 hk5
 have hx15:=hk5.ext hx14 hb4
 have hl5:=hx15.1
 have ht5:=hx15.get ht
 have hSl:=Sl.ofOwn ho5
 clear hk5 hx14 hl4 ho4 ho5
 have q1:∀b:Bool,((b==b) != true)=false:=fun b=>by cases b<;>rfl
 have q2:∀b:Bool,((b==b) != false)=true:=fun b=>by cases b<;>rfl
 (try simp only[ctlB])
 repeat' ((first|refine xSTwc ?_|refine xOTwc rfl ?_);(try simp only[ctlB]))
 (refine aw_cond (t:=false) (by simp(disch:=first|omega|(simp only[lenB];omega))only[evB,xBTwc,Nat.reduceAdd,Nat.reduceMul,Nat.reduceBEq,Int.reduceToNat,Int.reduceEq,Int.reduceNe, *];try rfl) (fun h=>by cases h) (fun h=>?_);clear h;(try simp only[ctlB]))
 refine aw_midX (fun S K=>Ext H K∧∃(z:Nat→Value),S=[.int .u8 (n:Nat),z 1,z 2,.int .i64 (k:Nat),z 4,z 5,z 6,z 7,z 8,z 9,.int .i64 (e10:Nat),z 11,z 12,z 13,z 14,z 15,z 16,z 17,z 18,z 19,z 20,z 21,z 22,z 23,z 24,z 25,z 26,z 27]) ?_ ?_
 ·by_cases hk0:0<k
  ·have hlen:(S7++S0).length=4096+k:=hlt.resolve_left id
   refine xCTwc (fun h=>?_) (fun h=>?_)
   ·clear h
    (try simp only[ctlB])
    refine xHTwc ?_
    refine wpH_call0 ((encode_long (lo:=H.length) hl5 hSl (by omega) (by omega)).sub sub_cpx) ?_
    rintro r K6 ⟨rfl,rfl⟩
    (try simp only[ctlB])
    repeat' ((first|refine xSTwc ?_|refine xOTwc rfl ?_);(try simp only[ctlB]))
    refine xHTwc ?_
    refine wpH_call0 ((length_long (lo:=H.length) hl5 hSl (by omega) (by omega)).sub sub_cpx) ?_
    rintro r K7 ⟨rfl,rfl⟩
    (try simp only[ctlB])
    repeat' ((first|refine xSTwc ?_|refine xOTwc rfl ?_);(try simp only[ctlB]))
    (refine aw_cond (t:=false) (by simp(disch:=first|omega|(simp only[lenB];omega))only[evB,xBTwc,Nat.reduceAdd,Nat.reduceMul,Nat.reduceBEq,Int.reduceToNat,Int.reduceEq,Int.reduceNe, *];try rfl) (fun h=>by cases h) (fun h=>?_);clear h;(try simp only[ctlB]))
    exact⟨hx15,exZSb rfl⟩
   ·exfalso;simp only[decide_eq_false_iff_not]at h;omega
  ·refine xCTwc (fun h=>?_) (fun h=>?_)
   ·exfalso;simp only[decide_eq_true_eq]at h;omega
   clear h
   (try simp only[ctlB])
   exact⟨hx15,exZSb rfl⟩
 rintro S K6 ⟨hx6,z,rfl⟩
 have hl6:=hx6.1
 have ht6:=hx6.get ht
 (try simp only[ctlB])
 refine xTTwc ?_
 refine wpH_call0 (exampleP hl6 ht6) ?_
 rintro r K7 ⟨-,rfl⟩
 (try simp only[ctlB])
 repeat' ((first|refine xSTwc ?_|refine xOTwc rfl ?_);(try simp only[ctlB]))
 refine xRTwc ?_
 rfl
end Go.Proofs.YtgpolmomghejoaaDoor
