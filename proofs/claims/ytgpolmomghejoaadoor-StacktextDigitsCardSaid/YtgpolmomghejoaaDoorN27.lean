/- Lemmas. -/
import Derived.Test.YtgpolmomghejoaaDoorN26
set_option linter.unusedVariables false
set_option linter.unusedSimpArgs false
set_option linter.unusedSectionVars false
namespace Go.Proofs.YtgpolmomghejoaaDoor
open Go.Abs
set_option maxRecDepth 20000
theorem fromN_numW:∀(n:Nat) {l:List UInt8},l.length≤n→(∀b ∈ l,isDg b=true)→fromN (numW l)=some l
 | _,[],_,_=>by rw[numW_nil,fromN_nil]
 | 0,a::l,h,_=>by simp at h
 | n+1,a::l,hn,h=>by
  have hd1:∀b ∈ (a::l).take 44,isDg b=true:=fun b hb=>h b (List.mem_of_mem_take hb)
  have hd2:∀b ∈ (a::l).drop 44,isDg b=true:=fun b hb=>h b (List.mem_of_mem_drop hb)
  have hl:((a::l).take 44).length=min 44 (l.length+1):=by rw[List.length_take,List.length_cons]
  rw[numW_pos (by simp)]
  have ih:=fromN_numW n (l:=(a::l).drop 44) (by simp at hn ⊢;omega) hd2
  have hr:numW ((a::l).drop 44)=[]∨((a::l).take 44).length=44:=by
   by_cases h44:l.length+1≤44
   ·refine .inl ?_
    rw[List.drop_eq_nil_of_le (by simpa using h44),numW_nil]
   ·exact .inr (by rw[hl];omega)
  rw[fromN_grp hd1 (by rw[hl];omega) (by rw[hl];omega) hr,ih]
  simp
theorem numW_fromN:∀(n:Nat) {d:List Nat} {t:List UInt8},d.length≤n→(∀w ∈ d,w<900)→fromN d=some t→(∀b ∈ t,isDg b=true)∧numW t=d
 | 0,d,t,hn,hw,h=>by
  have:d=[]:=List.length_eq_zero_iff.1 (by omega)
  subst this
  rw[fromN_nil]at h
  injection h with h
  subst h
  exact⟨by simp,numW_nil⟩
 | n+1,d,t,hn,hw,h=>by
  by_cases hd:d=[]
  ·exact numW_fromN n (by subst hd;simp) hw h
  have hd1:=List.length_pos_iff.2 hd
  rw[fromN_pos hd]at h
  split at h
  ·rename_i hok
   cases hf:fromN (d.drop 15)with
   | none=>rw[hf]at h;cases h
   | some t'=>
    rw[hf]at h
    simp only[Option.map_some,Option.some.injEq]at h
    subst h
    obtain⟨g1,g2,g3,g4,g5⟩:=grp_ok (fun w hw'=>hw w (List.mem_of_mem_take hw')) hok
    obtain⟨h1,h2⟩:=numW_fromN n (by simp;omega) (fun w hw'=>hw w (List.mem_of_mem_drop hw')) hf
    refine⟨fun b hb=>?_,?_⟩
    ·rcases List.mem_append.1 hb with hb|hb
     ·exact g1 b hb
     ·exact h1 b hb
    ·have hne:partS (d.take 15)++t'≠[]:=fun e=>by
      rw[List.append_eq_nil_iff]at e
      rw[e.1]at g2
      simp at g2
     have hsp:(partS (d.take 15)++t').take 44=partS (d.take 15)∧(partS (d.take 15)++t').drop 44=t':=by
      by_cases h44:(partS (d.take 15)).length=44
      ·rw[←h44];exact⟨List.take_left ..,List.drop_left ..⟩
      ·have hlast:d.length≤15:=by
        rcases g5 with g5|g5
        ·simpa using g5
        ·exact absurd g5 h44
       rw[List.drop_eq_nil_of_le hlast,fromN_nil]at hf
       injection hf with hf
       subst hf
       rw[List.append_nil]
       exact⟨List.take_of_length_le g3,List.drop_eq_nil_of_le g3⟩
     rw[numW_pos hne,hsp.1,hsp.2,g4,h2,List.take_append_drop]
  ·cases h
theorem numW_len:∀(n:Nat) {l:List UInt8},l.length≤n→(∀b ∈ l,isDg b=true)→(numW l).length=l.length/44*15+(if 0<l.length%44 then l.length%44/3+1 else 0)
 | _,[],_,_=>by simp[numW_nil]
 | 0,a::l,h,_=>by simp at h
 | n+1,a::l,hn,h=>by
  have hd1:∀b ∈ (a::l).take 44,isDg b=true:=fun b hb=>h b (List.mem_of_mem_take hb)
  have hd2:∀b ∈ (a::l).drop 44,isDg b=true:=fun b hb=>h b (List.mem_of_mem_drop hb)
  have hl:((a::l).take 44).length=min 44 (l.length+1):=by rw[List.length_take,List.length_cons]
  have ih:=numW_len n (l:=(a::l).drop 44) (by simp at hn ⊢;omega) hd2
  rw[numW_pos (by simp),List.length_append,ih,grpW_len hd1 (by rw[hl];omega),hl]
  simp only[List.length_drop,List.length_cons]
  by_cases h44:44≤l.length+1
  ·rw[Nat.min_eq_left h44]
   have e1:(l.length+1)/44=(l.length+1-44)/44+1:=by omega
   have e2:(l.length+1)%44=(l.length+1-44)%44:=by omega
   rw[e1,e2];omega
  ·have e0:l.length+1-44=0:=by omega
   have e1:(l.length+1)/44=0:=by omega
   have e2:(l.length+1)%44=l.length+1:=by omega
   rw[Nat.min_eq_right (show l.length+1≤44 by omega),e0,e1,e2,if_pos (show 0<l.length+1 by omega)]
   simp
theorem lawDigP{H:Heap}{v:Value}{l:List UInt8}{w:List Int}(hv:SlI H v w)(ht:H.get 0=some pow10V)(hl:l.length≤9223372036854775807) :
  Ev cpx H.length 8 [strV l,v] H (fun r _=>r=.bool true):=by
 obtain⟨ad,c0,rfl⟩:=hv.len
 refine xt8 ?_
 unfold bd8 cf8
 simp only[kB,ctlB]
 repeat' ((first|refine xSTv ?_|refine xOTv rfl ?_);(try simp only[ctlB]))
 refine xCTv (fun h=>?_) (fun h=>?_)
 ·clear h
  (try simp only[ctlB])
  refine xHTv ?_
  refine wpH_call0 (exampleP (Nat.le_refl _) ht) ?_
  rintro r K ⟨-,rfl⟩
  (try simp only[ctlB])
  repeat' ((first|refine xSTv ?_|refine xOTv rfl ?_);(try simp only[ctlB]))
  refine xRTv ?_
  rfl
 have hc:l.length≤300∧w.length≤100:=by simp only[Bool.or_eq_false_iff,decide_eq_false_iff_not]at h;omega
 clear h
 obtain⟨hc1,hc2⟩:=hc
 (try simp only[ctlB])
 have hF:=fnumP (lo:=H.length) (H:=H) (l:=w) (Nat.le_refl _) hv ht
 rcases hf:fromR w with ⟨f1,f2⟩
 rw[hf]at hF
 simp only at hF
 have hfacts:(f2=0→f1.length≤4400∧numericT f1=(w.map Int.toNat,0)∧∀x ∈ w,0≤x)∧(f2=0∨f2=3∨f2=4∨f2=22):=by
  unfold fromR at hf
  rw[if_neg (by omega)]at hf
  split at hf
  ·rename_i hall
   have hmem:=List.all_eq_true.1 hall
   have hr:∀x ∈ w,0≤x∧x<900:=fun x hx=>by
    have:=hmem x hx
    simpa only[okW,Bool.and_eq_true,decide_eq_true_eq]using this
   have hlt:∀n ∈ w.map Int.toNat,n<900:=fun n hn=>by
    obtain⟨x,hx,rfl⟩:=List.mem_map.1 hn
    have:=hr x hx
    omega
   cases hff:fromN (w.map Int.toNat)with
   | none=>rw[hff]at hf;injection hf with h1 h2;subst h2;exact⟨fun h=>by omega,by omega⟩
   | some t=>
    rw[hff]at hf
    injection hf with h1 h2
    subst h1 h2
    have hn:=fromN_len _ (Nat.le_refl _) hff
    rw[List.length_map]at hn
    obtain⟨k1,k2⟩:=numW_fromN _ (Nat.le_refl _) hlt hff
    have hn3:=numW_len t.length (Nat.le_refl _) k1
    rw[k2,List.length_map]at hn3
    have hn4:t.length≤300:=by split at hn3<;>omega
    refine⟨fun _=>⟨by omega,?_,fun x hx=>(hr x hx).1⟩,by omega⟩
    unfold numericT
    rw[if_neg (by omega),if_pos (List.all_eq_true.2 k1),k2]
  ·injection hf with h1 h2;subst h2;exact⟨fun h=>by omega,by omega⟩
 replace hf:False∨_:=.inr hf
 obtain⟨hf0,hf2⟩:=hfacts
 refine xHTv ?_
 refine wpH_call0 hF ?_
 rintro r K1 ⟨hx1,rfl⟩
 have hl1:=hx1.1
 clear hF
 (try simp only[ctlB])
 repeat' ((first|refine xSTv ?_|refine xOTv rfl ?_);(try simp only[ctlB]))
 replace hf0:False∨_:=.inr hf0
 refine aw_midX (fun S K=>Ext H K∧∃(z:Nat→Value),S=[strV l,.slice ad w.length c0,z 2,z 3,z 4,z 5,z 6,z 7,z 8,z 9,z 10,z 11,z 12,z 13,z 14,z 15,z 16,z 17,z 18,z 19,z 20,z 21,z 22]) ?_ ?_
 ·by_cases e0:f2=0
  ·obtain⟨k1,k2,k3⟩:=hf0.resolve_left id e0
   subst e0
   have hN:=(numericP (lo:=H.length) (H:=K1) (l:=f1) hl1 (by omega)).sub sub_cpx
   rw[k2]at hN
   have hwn:=sl_nat (hv.mono hx1) k3
   have hwl:(w.map Int.toNat).length≤100:=by rw[List.length_map];exact hc2
   (refine aw_cond (t:=true) (by simp(disch:=first|omega|(simp only[lenB];omega))only[evB,xBSg,Nat.reduceAdd,Nat.reduceMul,Nat.reduceBEq,Int.reduceToNat,Int.reduceEq,Int.reduceNe, *];try rfl) (fun h=>?_) (fun h=>by cases h);clear h;(try simp only[ctlB]))
   refine xHTv ?_
   refine wpH_call0 hN ?_
   rintro r K2 ⟨hx2,u2,rfl,hu2⟩
   simp only at hu2
   have hx12:=hx1.trans hx2
   have hS:=lsameP (lo:=H.length) (H:=K2) hx12.1 (by omega) hu2 (hwn.mono hx2)
   rw[decide_eq_true (rfl:w.map Int.toNat=w.map Int.toNat)]at hS
   clear hN k2 hwl hwn hu2 hf hf0 k3
   (try simp only[ctlB])
   repeat' ((first|refine xSTv ?_|refine xOTv rfl ?_);(try simp only[ctlB]))
   refine xTTv ?_
   refine wpH_call0 (hS.sub sub_cpx) ?_
   rintro r K3 ⟨rfl,rfl⟩
   (try simp only[ctlB])
   (refine aw_cond (t:=false) (by simp(disch:=first|omega|(simp only[lenB];omega))only[evB,xBSg,Nat.reduceAdd,Nat.reduceMul,Nat.reduceBEq,Int.reduceToNat,Int.reduceEq,Int.reduceNe, *];try rfl) (fun h=>by cases h) (fun h=>?_);clear h;(try simp only[ctlB]))
   exact⟨hx12,exZSb rfl⟩
  ·refine xCTv (fun h=>?_) (fun h=>?_)
   ·exfalso;simp at h
   clear h
   (try simp only[ctlB])
   exact⟨hx1,exZSb rfl⟩
 clear hx1 hl1 hf hf0 hf2
 rintro S K1 ⟨hx1,z,rfl⟩
 have hl1:=hx1.1
 have ht1:=hx1.get ht
 have hN:=(numericP (lo:=H.length) (H:=K1) (l:=l) hl1 hl).sub sub_cpx
 unfold numericT at hN
 rw[if_neg (by omega)]at hN
 by_cases hd:l.all isDg=true
 ·rw[if_pos hd]at hN
  have hmem:=List.all_eq_true.1 hd
  have hlen:=numW_len l.length (Nat.le_refl _) hmem
  have hfrom:=fromN_numW l.length (Nat.le_refl _) hmem
  have hlt:∀n ∈ numW l,n<900:=by
   intro n hn
   unfold numW at hn
   obtain⟨g,-,hg⟩:=List.mem_flatMap.1 hn
   exact b900_lt _ _ hg
  have hnl:(numW l).length≤8192:=by rw[hlen];split<;>omega
  have hfr:fromR ((numW l).map Int.ofNat)=(l,0):=by rw[fromR_nat hnl hlt,hfrom]
  have hd44:((l.length:Nat):Int).tdiv 44=((l.length/44:Nat):Int):=rfl
  have hm44:((l.length:Nat):Int).tmod 44=((l.length%44:Nat):Int):=rfl
  have hd3:((l.length%44:Nat):Int).tdiv 3=((l.length%44/3:Nat):Int):=rfl
  have hm15:((l.length/44:Nat):Int)*15=((l.length/44*15:Nat):Int):=rfl
  replace hlen:False∨_:=.inr hlen
  replace hfr:False∨_:=.inr hfr
  clear hmem hfrom hlt hd
  (try simp only[ctlB])
  refine xHTv ?_
  refine wpH_call0 hN ?_
  rintro r K2 ⟨hx2,u2,rfl,hu2⟩
  simp only at hu2
  obtain⟨a2,c2,rfl⟩:=hu2.len
  have hx12:=hx1.trans hx2
  have hl2:=hx12.1
  have hG:=fnumP (lo:=H.length) (H:=K2) (l:=(numW l).map Int.ofNat) hl2 (sl_int hu2) (hx12.get ht)
  rw[hfr.resolve_left id]at hG
  simp only at hG
  generalize hW:(numW l).length=W at *
  clear hN hfr hW
  (try simp only[ctlB])
  repeat' ((first|refine xSTv ?_|refine xOTv rfl ?_);(try simp only[ctlB]))
  (refine aw_cond (t:=false) (by simp(disch:=first|omega|(simp only[lenB];omega))only[evB,xBSg,Nat.reduceAdd,Nat.reduceMul,Nat.reduceBEq,Int.reduceToNat,Int.reduceEq,Int.reduceNe, *];try rfl) (fun h=>by cases h) (fun h=>?_);clear h;(try simp only[ctlB]))
  repeat' ((first|refine xSTv ?_|refine xOTv rfl ?_);(try simp only[ctlB]))
  refine aw_midX (fun S K=>K2=K∧∃(z:Nat→Value),S=[strV l,.slice ad w.length c0,z 2,z 3,z 4,z 5,z 6,.slice a2 W c2,z 8,.int .i64 (W:Nat),z 10,z 11,z 12,z 13,z 14,z 15,z 16,z 17,z 18,z 19,z 20,z 21,z 22]) ?_ ?_
  ·refine xCTv (fun h=>?_) (fun h=>?_)
   ·have e:0<l.length%44:=by simp only[decide_eq_true_eq]at h;omega
    clear h
    have hlen:=hlen.resolve_left id
    rw[if_pos e]at hlen
    have eW:((l.length/44*15:Nat):Int)+((l.length%44/3:Nat):Int)+1=((W:Nat):Int):=by omega
    clear hlen e
    (try simp only[ctlB])
    repeat' ((first|refine xSTv ?_|refine xOTv rfl ?_);(try simp only[ctlB]))
    exact⟨by trivial,exZSb (by rw[←eW];rfl)⟩
   ·have e:¬ 0<l.length%44:=by simp only[decide_eq_false_iff_not]at h;omega
    clear h
    have hlen:=hlen.resolve_left id
    rw[if_neg e]at hlen
    (try simp only[ctlB])
    exact⟨by trivial,exZSb (by rw[hlen];rfl)⟩
  rintro S K ⟨rfl,z,rfl⟩
  clear hlen hd44 hm44 hd3 hm15
  have eW:decide (((W:Nat):Int)=((W:Nat):Int))=true:=by simp
  have el:decide (l=l)=true:=by simp
  (try simp only[ctlB])
  refine xHTv ?_
  refine wpH_call0 hG ?_
  rintro r K3 ⟨hx3,rfl⟩
  have hx13:=hx12.trans hx3
  have hl3:=hx13.1
  have ht3:=hx13.get ht
  clear hG hx3
  (try simp only[ctlB])
  repeat' ((first|refine xSTv ?_|refine xOTv rfl ?_);(try simp only[ctlB]))
  refine xTTv ?_
  refine wpH_call0 (exampleP hl3 ht3) ?_
  rintro r K6 ⟨-,rfl⟩
  (try simp only[ctlB])
  repeat' ((first|refine xSTv ?_|refine xOTv rfl ?_);(try simp only[ctlB]))
  refine xRTv ?_
  rfl
 ·rw[if_neg hd]at hN
  clear hd
  (try simp only[ctlB])
  refine xHTv ?_
  refine wpH_call0 hN ?_
  rintro r K2 ⟨hx2,u2,rfl,hu2⟩
  have hx12:=hx1.trans hx2
  have hl2:=hx12.1
  have ht2:=hx12.get ht
  clear hN hu2
  (try simp only[ctlB])
  repeat' ((first|refine xSTv ?_|refine xOTv rfl ?_);(try simp only[ctlB]))
  (refine aw_cond (t:=true) (by simp(disch:=first|omega|(simp only[lenB];omega))only[evB,xBSg,Nat.reduceAdd,Nat.reduceMul,Nat.reduceBEq,Int.reduceToNat,Int.reduceEq,Int.reduceNe, *];try rfl) (fun h=>?_) (fun h=>by cases h);clear h;(try simp only[ctlB]))
  refine xTTv ?_
  refine wpH_call0 (exampleP hl2 ht2) ?_
  rintro r K6 ⟨-,rfl⟩
  (try simp only[ctlB])
  repeat' ((first|refine xSTv ?_|refine xOTv rfl ?_);(try simp only[ctlB]))
  refine xRTv ?_
  rfl
end Go.Proofs.YtgpolmomghejoaaDoor
