/- Lemmas. -/
import Derived.Test.YtgpolmomghejoaaDoorM30
set_option linter.unusedVariables false
set_option linter.unusedSimpArgs false
set_option linter.unusedSectionVars false
namespace Go.Proofs.YtgpolmomghejoaaDoor
open Go.Abs
theorem getD_pre{p q:List UInt8}{j:Nat}(h:j<p.length):(p++q).getD j 0=p.getD j 0:=by
 rw[List.getD_eq_getElem?_getD,List.getElem?_append_left h,←List.getD_eq_getElem?_getD]
theorem tkS_pre{p q:List UInt8}{s:Nat×Nat}{v j:Nat}(h:j<p.length):tkS (p++q) s v j=tkS p s v j:=by
 unfold tkS
 rw[getD_pre h,List.length_append]
 have h':j<p.length+q.length:=by omega
 simp only[h,h',true_and]
theorem tkS_inv{p:List UInt8}{s t:Nat×Nat}{v j m:Nat}(h:tkS p s v j=some (t,m)):∃c,stp s.1 s.2 v=some (c,t.1,t.2)∧((c<0∧m=0)∨(¬ c<0∧m=1∧j<p.length∧((p.getD j 0).toNat:Int)=c)):=by
 unfold tkS at h
 split at h
 ·cases h
 rename_i c x y e
 split at h
 ·rename_i hc
  cases h
  exact⟨c,e,.inl ⟨hc,rfl⟩⟩
 ·rename_i hc
  split at h
  ·rename_i h2
   cases h
   exact⟨c,e,.inr ⟨hc,rfl,h2⟩⟩
  ·cases h
theorem tkS_zero{p r:List UInt8}{s t:Nat×Nat}{v j i:Nat}(h:tkS r s v j=some (t,0)):tkS p s v i=some (t,0):=by
 obtain⟨c,e,⟨h1,-⟩|⟨-,h2,-⟩⟩:=tkS_inv h
 ·unfold tkS
  rw[e]
  simp only[if_pos h1]
 ·cases h2
theorem stp_ch{a b v x y:Nat}{c:Int}(h:stp a b v=some (c,x,y))(hc:¬ c<0):y=0:=by
 unfold stp at h
 repeat' split at h
 all_goals first
  | (cases h;done)
  | (simp only[Option.some.injEq,Prod.mk.injEq]at h;omega)
theorem tkS_29{p:List UInt8}{s:Nat×Nat}(h:s.2=0)(j:Nat):∃t,tkS p s 29 j=some (t,0):=by
 obtain⟨a,b⟩:=s
 simp only at h
 subst h
 unfold tkS stp
 by_cases h3:a=3
 ·subst h3;exact⟨_,rfl⟩
 ·simp[h3]
theorem arc_inv{p:List UInt8}{i a:Nat}{x:Nat×Nat×Nat}(h:x ∈ arcS p i a):∃u v s k t m,u<30∧v<30∧tkS p (a/3,a%3) u i=some (s,k)∧tkS p s v (i+k)=some (t,m)∧x=(30*u+v,k+m,3*t.1+t.2):=by
 simp only[arcS,List.mem_flatMap,List.mem_range]at h
 obtain⟨u,hu,h⟩:=h
 unfold arcU at h
 split at h
 ·simp at h
 rename_i s k e
 simp only[List.mem_flatMap,List.mem_range]at h
 obtain⟨v,hv,h⟩:=h
 unfold arcV at h
 split at h
 ·simp at h
 rename_i t m e2
 exact⟨u,v,s,k,t,m,hu,hv,e,e2,List.mem_singleton.1 h⟩
theorem arc_mk{p:List UInt8}{i a u v k m:Nat}{s t:Nat×Nat}(hu:u<30)(hv:v<30)(h1:tkS p (a/3,a%3) u i=some (s,k))(h2:tkS p s v (i+k)=some (t,m)):(30*u+v,k+m,3*t.1+t.2) ∈ arcS p i a:=by
 simp only[arcS,List.mem_flatMap,List.mem_range]
 refine⟨u,hu,?_⟩
 unfold arcU
 rw[h1]
 simp only[List.mem_flatMap,List.mem_range]
 refine⟨v,hv,?_⟩
 unfold arcV
 rw[h2]
 simp
theorem le_dgA{p:List UInt8}{i n:Nat}(h:∀b ∈ (p.drop i).take n,isDg b=true)(h44:n≤44)(hi:i+n≤p.length):n≤dgA p i:=by
 unfold dgA
 have e:(p.drop i).take 44=(p.drop i).take n++((p.drop i).drop n).take (44-n):=by
  rw[←List.take_add,show n+(44-n)=44 by omega]
 rw[e,List.takeWhile_append_of_pos h,List.length_append,List.length_take,List.length_drop]
 omega
theorem sub_pre{p q:List UInt8}{i n:Nat}(h:i+n≤p.length):((p++q).drop i).take n=(p.drop i).take n:=by
 rw[List.drop_append_of_le_length (by omega),List.take_append_of_le_length (by rw[List.length_drop];omega)]
theorem fin_end{p:List UInt8}:∀{t:Thr},finS p t→t.2.1=p.length
 | (0,i,a,b),h=>h
 | (1,i,a,b),h=>h.elim
 | (2,i,a,b),h=>h.1
 | (3,i,a,b),h=>h.elim
 | (4,i,a,b),h=>h
 | (5,i,a,b),h=>h.1
 | (6,i,a,b),h=>h
 | (k+7,i,a,b),h=>h.elim
structure Cut (p q:List UInt8)(T:Tab)(w:List Nat):Prop where
 A:∀i a,i≤p.length→a<12→Acc (p++q) (0,i,a,0) w→T.tx i a≤w.length
 G:∀i k,i≤p.length→(k=2∨k=3)→Acc (p++q) (k,i,0,0) w→min (T.sx i) (T.nn i)≤w.length
 L:∀i t,i≤p.length→1≤t→t≤5→Acc (p++q) (4,i,t,0) w→T.tl i t≤w.length
 D:∀i,i≤p.length→Acc (p++q) (5,i,0,0) w→T.dg i≤w.length
 E:∀i,i≤p.length→Acc (p++q) (6,i,0,0) w→T.en i≤w.length
section
variable {p q:List UInt8}{T:Tab}(hl:∀i,i≤p.length→LowA p T i)
include hl
theorem at_end:T.en p.length=0∧T.sx p.length=0∧T.dg p.length=0∧(∀a,a<12→T.tx p.length a=0)∧∀t,1≤t→t≤5→T.tl p.length t=0:=by
 have h:=hl p.length (Nat.le_refl _)
 obtain⟨h1,h2⟩:=h.e0 rfl
 have h3:=h.sx
 have h4:=h.dg
 exact⟨h1,by omega,by omega,h2,fun t ht1 ht5=>by have:=h.tl t ht1 ht5;omega⟩
theorem cut_nil:Cut p q T []:=by
 obtain⟨h1,h2,h3,h4,h5⟩:=at_end hl
 have key:∀{t:Thr},t.2.1≤p.length→Acc (p++q) t []→t.2.1=p.length:=fun {t} ht h=>by
  have:=fin_end (show finS (p++q) t from h)
  rw[List.length_append]at this;omega
 refine⟨fun i a hi ha h=>?_,fun i k hi hk h=>?_,fun i t hi ht1 ht5 h=>?_,fun i hi h=>?_,fun i hi h=>?_⟩
 all_goals (have e:i=p.length:=key hi h;subst e;simp only[List.length_nil])
 ·rw[h4 a ha];exact Nat.le_refl _
 ·omega
 ·rw[h5 t ht1 ht5];exact Nat.le_refl _
 ·omega
 ·omega
theorem nn_end{i:Nat}(h1:i<p.length)(h2:p.length<i+6):T.nn i≤5:=by
 have:=(hl i (by omega)).n1 h1
 have:=tl_end hl (p.length-i-1) (i+1) 1 (by omega) (by omega) (by omega)
 omega
theorem cut_cmd{i x:Nat}{t':Thr}{w:List Nat}(hi:i≤p.length)(ih:Cut p q T w)(hm:(x,t') ∈ cmdS i)(h:Acc (p++q) t' w):cmdC T i≤1+w.length:=by
 simp only[cmdS,List.mem_cons,List.not_mem_nil,or_false,Prod.mk.injEq]at hm
 unfold cmdC
 rcases hm with ⟨-,rfl⟩|⟨-,rfl⟩|⟨-,rfl⟩|⟨-,rfl⟩
 ·have:=ih.A i 0 hi (by decide) h;omega
 ·have:=ih.G i 3 hi (.inr rfl) h;omega
 ·have:=ih.D i hi h;omega
 ·have:=ih.G i 2 hi (.inl rfl) h;omega
theorem cut_cons{x:Nat}{w:List Nat}(ih:∀w',w'.length≤w.length→Cut p q T w'):Cut p q T (x::w):=by
 obtain⟨e1,e2,e3,e4,e5⟩:=at_end hl
 have ihw:=ih w (Nat.le_refl _)
 refine⟨fun i a hi ha h=>?_,fun i k hi hk h=>?_,fun i t hi ht1 ht5 h=>?_,fun i hi h=>?_,fun i hi h=>?_⟩
 ·
  by_cases hiL:i=p.length
  ·subst hiL;rw[e4 a ha];exact Nat.zero_le _
  have hi':i<p.length:=by omega
  obtain⟨t',hm,h⟩:=h
  simp only[movS,List.mem_append,List.mem_map]at hm
  rcases hm with ⟨y,hy,e⟩|hm|hm
  ·injection e with ex et
   subst et
   obtain⟨u,v,s,k,t,m,hu,hv,h1,h2,rfl⟩:=arc_inv hy
   rw[tkS_pre hi']at h1
   simp only at h
   obtain⟨c1,g1,g2⟩:=tkS_inv h1
   obtain⟨c2,g3,g4⟩:=tkS_inv h2
   have hk1:k≤1:=by omega
   have hm1:m≤1:=by omega
   by_cases hx:i+k<p.length
   ·rw[tkS_pre hx]at h2
    have hmem:=arc_mk hu hv h1 h2
    have ha12:=(mem_arc hmem ha hi)
    obtain⟨_,_,_,_,_,_,_,_,_,_,_,_,_,_,_,hx12,_⟩:=ha12
    have h3:=(hl i hi).ar a ha _ hmem
    have h4:=ihw.A (i+(k+m)) _ (by omega) hx12 h
    simp only[List.length_cons]at *
    omega
   ·have hkk:k=1∧i+1=p.length:=by omega
    obtain⟨rfl,hi1⟩:=hkk
    obtain⟨t2,h5⟩:∃t2,tkS p s 29 (i+1)=some (t2,0):=tkS_29 (stp_ch g1 (by rcases g2 with g2|g2<;>omega)) _
    have hmem:=arc_mk hu (by decide) h1 h5
    obtain⟨_,_,_,_,_,_,_,_,_,_,_,_,_,_,_,hx12,_⟩:=mem_arc hmem ha hi
    have h3:=(hl i hi).ar a ha _ hmem
    simp only[hi1,Nat.add_zero]at h3 hx12
    rw[e4 _ hx12]at h3
    simp only[List.length_cons]
    omega
  ·split at hm
   ·simp only[List.mem_cons,List.not_mem_nil,or_false,Prod.mk.injEq]at hm
    obtain⟨-,rfl⟩:=hm
    have hb:=(hl i hi).by1 hi' a ha
    cases w with
    | nil=>exact h.elim
    | cons y w2=>
     obtain⟨t2,hm2,h2⟩:=h
     simp only[movS,List.mem_cons,List.not_mem_nil,or_false,Prod.mk.injEq]at hm2
     obtain⟨-,rfl⟩:=hm2
     have:=(ih w2 (by simp)).A (i+1) (a/3*3) hi' (by omega) h2
     simp only[List.length_cons];omega
   ·simp at hm
  ·have h1:=cut_cmd hl hi ihw hm h
   have h2:=(hl i hi).cm a ha
   simp only[List.length_cons];omega
 ·
  by_cases hiL:i=p.length
  ·subst hiL;omega
  have hi':i<p.length:=by omega
  obtain⟨t',hm,h⟩:=h
  have hm':(x,t') ∈ cmdS i∨t'=(4,i+1,1,0)∨(t'=(k,i,1,0)):=by
   rcases hk with rfl|rfl
   ·simp only[movS,List.mem_append]at hm
    rcases hm with hm|hm|hm
    ·rw[if_pos ⟨trivial,trivial⟩]at hm;exact .inl hm
    ·simp at hm
    ·split at hm
     ·simp only[List.mem_cons,List.not_mem_nil,or_false,Prod.mk.injEq]at hm
      exact .inr (.inr hm.2)
     ·simp at hm
   ·simp only[movS,List.mem_append]at hm
    rcases hm with hm|hm|hm
    ·simp at hm
    ·split at hm
     ·simp only[List.mem_cons,List.not_mem_nil,or_false,Prod.mk.injEq]at hm
      exact .inr (.inl hm.2)
     ·simp at hm
    ·split at hm
     ·simp only[List.mem_cons,List.not_mem_nil,or_false,Prod.mk.injEq]at hm
      exact .inr (.inr hm.2)
     ·simp at hm
  rcases hm' with hm|rfl|rfl
  ·have h1:=cut_cmd hl hi ihw hm h
   have h2:=(hl i hi).en
   have h3:=(hl i hi).sx
   simp only[List.length_cons];omega
  ·have h1:=ihw.L (i+1) 1 hi' (by decide) (by decide) h
   have h2:=(hl i hi).n1 hi'
   simp only[List.length_cons];omega
  ·obtain⟨h6,w',rfl,hq⟩:=acc_six hk 4 1 _ rfl (by omega) (by omega) h
   have h5:((g5 (v6 (p++q) i)).drop 1).length=4:=rfl
   simp only[List.length_cons,List.length_append,h5]
   by_cases hx:i+6≤p.length
   ·have h1:=(ih w' (by simp)).G (i+6) k hx hk hq
    have h2:=(hl i hi).s6 hx
    have h3:=(hl i hi).n6 hx
    omega
   ·have:=nn_end hl hi' (by omega)
    omega
 ·
  by_cases hiL:i=p.length
  ·subst hiL;rw[e5 t ht1 ht5];exact Nat.zero_le _
  have hi':i<p.length:=by omega
  obtain⟨t',hm,h⟩:=h
  simp only[movS,List.mem_append]at hm
  rcases hm with hm|hm
  ·split at hm
   ·rename_i h5
    simp only[List.mem_cons,List.not_mem_nil,or_false,Prod.mk.injEq]at hm
    obtain⟨-,rfl⟩:=hm
    have h1:=ihw.L (i+1) (t+1) hi' (by omega) (by omega) h
    have h2:=(hl i hi).t1 hi' t ht1 h5.1
    simp only[List.length_cons];omega
   ·simp at hm
  ·have h1:=cut_cmd hl hi ihw hm h
   have h2:=(hl i hi).en
   have h3:=(hl i hi).tl t ht1 ht5
   simp only[List.length_cons];omega
 ·
  by_cases hiL:i=p.length
  ·subst hiL;omega
  have hi':i<p.length:=by omega
  obtain⟨t',hm,h⟩:=h
  simp only[movS,Nat.lt_irrefl,if_false,List.mem_append,List.mem_map,List.mem_range]at hm
  rcases hm with hm|⟨k,hk,e⟩
  ·have h1:=cut_cmd hl hi ihw hm h
   have h2:=(hl i hi).en
   have h3:=(hl i hi).dg
   simp only[List.length_cons];omega
  ·injection e with ex et
   subst et
   have hk1:k+1≤dgA (p++q) i:=by omega
   have hgl:=grpA_len hk1
   obtain⟨w',rfl,hq⟩:=acc_dig (by omega) hk1 ((k+1)/3) 1 w (by omega) h
   have h44:k+1≤44:=by have:=dgA_le (p++q) i;omega
   have hdl:((grpA (p++q) i (k+1)).drop 1).length=(k+1)/3:=by rw[List.length_drop,hgl];omega
   unfold behS at hq
   rw[if_neg (by omega)]at hq
   simp only[List.length_cons,List.length_append,hdl]
   have hdp:∀n,n≤k+1→i+n≤p.length→n≤dgA p i:=fun n hn hin=>by
    refine le_dgA (fun b hb=>?_) (by omega) hin
    rw[←sub_pre (q:=q) hin]at hb
    obtain⟨hd,-,-⟩:=(dig_sub hk1).resolve_right (by omega)
    refine hd b ?_
    rw[show n=min n (k+1) by omega,←List.take_take]at hb
    exact List.mem_of_mem_take hb
   by_cases hx:i+(k+1)≤p.length
   ·have h1:=(hl i hi).dk (k+1) (by omega) (hdp _ (Nat.le_refl _) hx)
    unfold endD at h1
    split at hq
    ·rename_i h44
     have h2:=(ih w' (by simp)).D (i+(k+1)) hx hq
     rw[if_pos h44]at h1
     omega
    ·rename_i h44
     have h2:=(ih w' (by simp)).E (i+(k+1)) hx hq
     rw[if_neg h44]at h1
     omega
   ·have h1:=(hl i hi).dk (p.length-i) (by omega) (hdp _ (by omega) (by omega))
    have h2:endD T i (p.length-i)=0:=by
     unfold endD
     rw[show i+(p.length-i)=p.length by omega,e3,e1];simp
    have h3:(p.length-i)/3≤(k+1)/3:=Nat.div_le_div_right (by omega)
    omega
 ·
  by_cases hiL:i=p.length
  ·subst hiL;omega
  obtain⟨t',hm,h⟩:=h
  have h1:=cut_cmd hl hi ihw hm h
  have h2:=(hl i hi).en
  simp only[List.length_cons];omega
theorem cut_all:∀(m:Nat) (w:List Nat),w.length≤m→Cut p q T w
 | _,[],_=>cut_nil hl
 | 0,_::_,h=>by simp at h
 | m+1,x::w,h=>cut_cons hl fun w' hw=>cut_all m w' (by simp at h;omega)
end
theorem tkS_mono{p q:List UInt8}{s:Nat×Nat}{v j:Nat}{r:(Nat×Nat)×Nat}(h:tkS p s v j=some r):tkS (p++q) s v j=some r:=by
 obtain⟨t,m⟩:=r
 obtain⟨c,e,⟨h1,h2⟩|⟨h1,h2,h3,h4⟩⟩:=tkS_inv h
 ·subst h2;exact tkS_zero h
 ·rw[tkS_pre h3];exact h
theorem arc_mono{p q:List UInt8}{i a:Nat}{x:Nat×Nat×Nat}(h:x ∈ arcS p i a):x ∈ arcS (p++q) i a:=by
 obtain⟨u,v,s,k,t,m,hu,hv,h1,h2,rfl⟩:=arc_inv h
 exact arc_mk hu hv (tkS_mono h1) (tkS_mono h2)
theorem grp_pre{p q:List UInt8}{i a:Nat}(h:a≤dgA p i):grpA (p++q) i a=grpA p i a∧a≤dgA (p++q) i:=by
 rcases dig_sub h with ⟨h1,h2,h3⟩|rfl
 ·refine⟨by unfold grpA;rw[sub_pre h3],le_dgA (fun b hb=>?_) h2 (by rw[List.length_append];omega)⟩
  rw[sub_pre h3]at hb
  exact h1 b hb
 ·exact⟨by unfold grpA;simp,Nat.zero_le _⟩
theorem by_pre{p q:List UInt8}{i:Nat}(h:i<p.length):byA (p++q) i=byA p i:=by
 unfold byA;rw[getD_pre h]
theorem v6_pre{p q:List UInt8}{i:Nat}(h:i+6≤p.length):v6 (p++q) i=v6 p i:=by
 unfold v6;rw[sub_pre h]
theorem mov_mono{p q:List UInt8}{t t':Thr}{x:Nat}(hv:VT p t)(h:(x,t') ∈ movS p t):(x,t') ∈ movS (p++q) t:=by
 have hlen:(p++q).length=p.length+q.length:=List.length_append
 obtain⟨k,i,a,b⟩:=t
 match k,hv with
 | 0,hv=>
  simp only[movS,List.mem_append,List.mem_map]at h ⊢
  rcases h with ⟨y,hy,e⟩|h|h
  ·exact .inl ⟨y,arc_mono hy,e⟩
  ·split at h
   ·rw[if_pos (by omega)];exact .inr (.inl h)
   ·simp at h
  ·exact .inr (.inr h)
 | 1,hv=>
  simp only[movS]at h ⊢
  rw[by_pre hv.1];exact h
 | 2,hv=>
  simp only[movS,List.mem_append]at h ⊢
  rcases h with h|h|h
  ·exact .inl h
  ·simp at h
  ·split at h
   ·rename_i h6
    rw[if_pos (show i+6≤(p++q).length by omega),v6_pre h6];exact .inr (.inr h)
   ·simp at h
 | 3,hv=>
  simp only[movS,List.mem_append]at h ⊢
  rcases h with h|h|h
  ·exact .inl h
  ·split at h
   ·rename_i h6
    rw[if_pos (show a=0∧True∧i<(p++q).length from⟨h6.1,trivial,by omega⟩),by_pre h6.2.2];exact .inr (.inl h)
   ·simp at h
  ·split at h
   ·rename_i h6
    rw[if_pos (show i+6≤(p++q).length by omega),v6_pre h6];exact .inr (.inr h)
   ·simp at h
 | 4,hv=>
  simp only[movS,List.mem_append]at h ⊢
  rcases h with h|h
  ·split at h
   ·rename_i h6
    rw[if_pos ⟨h6.1,by omega⟩,by_pre h6.2];exact .inl h
   ·simp at h
  ·exact .inr h
 | 5,hv=>
  obtain⟨h1,h2,h3,h4⟩:=hv
  simp only[movS]at h ⊢
  split at h
  ·rename_i ha
   rw[if_pos ha,(grp_pre h2).1];exact h
  ·rename_i ha
   rw[if_neg ha]
   simp only[List.mem_append,List.mem_map,List.mem_range]at h ⊢
   rcases h with h|⟨n,hn,e⟩
   ·exact .inl h
   ·obtain⟨g1,g2⟩:=grp_pre (q:=q) (show n+1≤dgA p i by omega)
    exact .inr ⟨n,by omega,by rw[g1];exact e⟩
 | 6,hv=>exact h
theorem fin_900{p q:List UInt8}:∀{t:Thr},finS p t→(900,((0,p.length,0,0):Thr)) ∈ movS (p++q) t
 | (0,i,a,b),h=>by
  cases h
  simp[movS,cmdS]
 | (2,i,a,b),h=>by
  obtain⟨rfl,rfl⟩:=h
  simp[movS,cmdS]
 | (4,i,a,b),h=>by
  cases h
  simp[movS,cmdS]
 | (5,i,a,b),h=>by
  obtain⟨rfl,rfl⟩:=h
  simp[movS,cmdS]
 | (6,i,a,b),h=>by
  cases h
  simp[movS,cmdS]
 | (1,i,a,b),h=>h.elim
 | (3,i,a,b),h=>h.elim
 | (k+7,i,a,b),h=>h.elim
theorem acc_join{p q:List UInt8}{T:Tab}(hl:∀i,i≤p.length→LowA p T i){v:List Nat}(hv:Acc (p++q) (0,p.length,0,0) v):∀{w:List Nat} {t:Thr},VT p t→Acc p t w→Acc (p++q) t (w++900::v)
 | [],t,ht,h=>⟨_,fin_900 h,hv⟩
 | x::w,t,ht,⟨t',hm,h⟩=>⟨t',mov_mono ht hm,acc_join hl hv (mov_ok hl ht hm).1 h⟩
def shT(n:Nat)(t:Thr):Thr:=(t.1,n+t.2.1,t.2.2.1,t.2.2.2)
theorem tkS_sh{p q:List UInt8}{s:Nat×Nat}{v j:Nat}:tkS (p++q) s v (p.length+j)=tkS q s v j:=by
 unfold tkS
 have e1:(p++q).getD (p.length+j) 0=q.getD j 0:=by
  rw[List.getD_eq_getElem?_getD,List.getElem?_append_right (by omega),Nat.add_sub_cancel_left,←List.getD_eq_getElem?_getD]
 rw[e1,List.length_append]
 simp only[Nat.add_lt_add_iff_left]
theorem arc_sh{p q:List UInt8}{i a:Nat}{x:Nat×Nat×Nat}(h:x ∈ arcS q i a):x ∈ arcS (p++q) (p.length+i) a:=by
 obtain⟨u,v,s,k,t,m,hu,hv,h1,h2,rfl⟩:=arc_inv h
 exact arc_mk hu hv (by rw[tkS_sh];exact h1) (by rw[Nat.add_assoc,tkS_sh];exact h2)
theorem drop_sh{p q:List UInt8}{i:Nat}:(p++q).drop (p.length+i)=q.drop i:=by
 rw[List.drop_append,List.drop_eq_nil_of_le (by omega),List.nil_append]
 congr 1;omega
theorem by_sh{p q:List UInt8}{i:Nat}:byA (p++q) (p.length+i)=byA q i:=by
 unfold byA
 rw[List.getD_eq_getElem?_getD,List.getElem?_append_right (by omega),Nat.add_sub_cancel_left,←List.getD_eq_getElem?_getD]
theorem v6_sh{p q:List UInt8}{i:Nat}:v6 (p++q) (p.length+i)=v6 q i:=by unfold v6;rw[drop_sh]
theorem dg_sh{p q:List UInt8}{i:Nat}:dgA (p++q) (p.length+i)=dgA q i:=by unfold dgA;rw[drop_sh]
theorem grp_sh{p q:List UInt8}{i a:Nat}:grpA (p++q) (p.length+i) a=grpA q i a:=by unfold grpA;rw[drop_sh]
theorem beh_sh{n i a b:Nat}:behS (n+i) a b=shT n (behS i a b):=by
 unfold behS shT
 split
 ·rfl
 ·split<;>simp only[Nat.add_assoc]
theorem cmd_sh{n i x:Nat}{t':Thr}(h:(x,t') ∈ cmdS i):(x,shT n t') ∈ cmdS (n+i):=by
 simp only[cmdS,List.mem_cons,List.not_mem_nil,or_false,Prod.mk.injEq]at h ⊢
 rcases h with ⟨rfl,rfl⟩|⟨rfl,rfl⟩|⟨rfl,rfl⟩|⟨rfl,rfl⟩
 ·exact .inl ⟨rfl,rfl⟩
 ·exact .inr (.inl ⟨rfl,rfl⟩)
 ·exact .inr (.inr (.inl ⟨rfl,rfl⟩))
 ·exact .inr (.inr (.inr ⟨rfl,rfl⟩))
theorem mov_sh{p q:List UInt8}{t t':Thr}{x:Nat}(hv:VT q t)(h:(x,t') ∈ movS q t):(x,shT p.length t') ∈ movS (p++q) (shT p.length t):=by
 have hlen:(p++q).length=p.length+q.length:=List.length_append
 obtain⟨k,i,a,b⟩:=t
 match k,hv with
 | 0,hv=>
  simp only[shT,movS,List.mem_append,List.mem_map]at h ⊢
  rcases h with ⟨y,hy,e⟩|h|h
  ·injection e with e1 e2
   subst e1 e2
   exact .inl ⟨y,arc_sh hy,by simp only[Nat.add_assoc]⟩
  ·split at h
   ·simp only[List.mem_cons,List.not_mem_nil,or_false,Prod.mk.injEq]at h
    obtain⟨rfl,rfl⟩:=h
    rw[if_pos (by omega)];exact .inr (.inl (by simp))
   ·simp at h
  ·exact .inr (.inr (cmd_sh h))
 | 1,hv=>
  simp only[shT,movS,List.mem_cons,List.not_mem_nil,or_false,Prod.mk.injEq]at h ⊢
  obtain⟨rfl,rfl⟩:=h
  exact⟨by_sh.symm,by simp only[Nat.add_assoc,and_self]⟩
 | 2,hv=>
  simp only[shT,movS,List.mem_append]at h ⊢
  rcases h with h|h|h
  ·split at h
   ·rename_i h2;rw[if_pos h2];exact .inl (cmd_sh h)
   ·simp at h
  ·simp at h
  ·split at h
   ·rename_i h6
    simp only[List.mem_cons,List.not_mem_nil,or_false,Prod.mk.injEq]at h
    obtain⟨rfl,rfl⟩:=h
    rw[if_pos (show p.length+i+6≤(p++q).length by omega),v6_sh]
    refine .inr (.inr ?_)
    by_cases h4:a=4
    ·simp[h4,Nat.add_assoc]
    ·simp[h4]
   ·simp at h
 | 3,hv=>
  simp only[shT,movS,List.mem_append]at h ⊢
  rcases h with h|h|h
  ·split at h
   ·rename_i h2;rw[if_pos h2];exact .inl (cmd_sh h)
   ·simp at h
  ·split at h
   ·rename_i h2
    simp only[List.mem_cons,List.not_mem_nil,or_false,Prod.mk.injEq]at h
    obtain⟨rfl,rfl⟩:=h
    rw[if_pos (show a=0∧True∧p.length+i<(p++q).length from⟨h2.1,trivial,by omega⟩),by_sh]
    exact .inr (.inl (by simp[Nat.add_assoc]))
   ·simp at h
  ·split at h
   ·rename_i h6
    simp only[List.mem_cons,List.not_mem_nil,or_false,Prod.mk.injEq]at h
    obtain⟨rfl,rfl⟩:=h
    rw[if_pos (show p.length+i+6≤(p++q).length by omega),v6_sh]
    refine .inr (.inr ?_)
    by_cases h4:a=4
    ·simp[h4,Nat.add_assoc]
    ·simp[h4]
   ·simp at h
 | 4,hv=>
  simp only[shT,movS,List.mem_append]at h ⊢
  rcases h with h|h
  ·split at h
   ·rename_i h2
    simp only[List.mem_cons,List.not_mem_nil,or_false,Prod.mk.injEq]at h
    obtain⟨rfl,rfl⟩:=h
    rw[if_pos ⟨h2.1,by omega⟩,by_sh]
    exact .inl (by simp[Nat.add_assoc])
   ·simp at h
  ·exact .inr (cmd_sh h)
 | 5,hv=>
  simp only[shT,movS]at h ⊢
  rw[grp_sh,dg_sh]
  split at h
  ·rename_i ha
   simp only[List.mem_cons,List.not_mem_nil,or_false,Prod.mk.injEq]at h
   obtain⟨rfl,rfl⟩:=h
   rw[if_pos ha,beh_sh]
   simp[shT]
  ·rename_i ha
   rw[if_neg ha]
   simp only[List.mem_append,List.mem_map,List.mem_range]at h ⊢
   rcases h with h|⟨n,hn,e⟩
   ·exact .inl (cmd_sh h)
   ·injection e with e1 e2
    subst e1 e2
    exact .inr ⟨n,hn,by rw[grp_sh,beh_sh];rfl⟩
 | 6,hv=>exact cmd_sh h
theorem fin_sh{p q:List UInt8}:∀{t:Thr},finS q t→finS (p++q) (shT p.length t)
 | (0,i,a,b),h=>by
  cases h
  simp[finS,shT]
 | (2,i,a,b),h=>by
  obtain⟨rfl,rfl⟩:=h
  simp[finS,shT]
 | (4,i,a,b),h=>by
  cases h
  simp[finS,shT]
 | (5,i,a,b),h=>by
  obtain⟨rfl,rfl⟩:=h
  simp[finS,shT]
 | (6,i,a,b),h=>by
  cases h
  simp[finS,shT]
 | (1,i,a,b),h=>h.elim
 | (3,i,a,b),h=>h.elim
 | (k+7,i,a,b),h=>h.elim
theorem acc_sh{p q:List UInt8}{T:Tab}(hl:∀i,i≤q.length→LowA q T i):∀{w:List Nat} {t:Thr},VT q t→Acc q t w→Acc (p++q) (shT p.length t) w
 | [],t,ht,h=>fin_sh h
 | x::w,t,ht,⟨t',hm,h⟩=>⟨_,mov_sh ht hm,acc_sh hl (mov_ok hl ht hm).1 h⟩
theorem joins{p q:List UInt8}{T1 T2:Tab}{w1 w2 w3:List Nat}(h1:∀i,i≤p.length→LowA p T1 i)(h2:∀i,i≤q.length→LowA q T2 i)(e1:w1.length=T1.tx 0 0)
  (b1:BestIn (Acc p (0,0,0,0)) w1) (b2:BestIn (Acc q (0,0,0,0)) w2) (b3:BestIn (Acc (p++q) (0,0,0,0)) w3):w3.length≤w1.length+w2.length+1∧w1.length≤w3.length:=by
 constructor
 ·have ha:=acc_sh (p:=p) (t:=(0,0,0,0)) h2 ⟨Nat.zero_le _,by decide,rfl⟩ b2.1
  have hj:=acc_join (t:=(0,0,0,0)) h1 ha ⟨Nat.zero_le _,by decide,rfl⟩ b1.1
  rcases b3.2 _ hj with h|⟨h,-⟩<;>(rw[List.length_append,List.length_cons]at h;omega)
 ·rw[e1]
  exact(cut_all h1 w3.length w3 (Nat.le_refl _)).A 0 0 (Nat.zero_le _) (by decide) b3.1
set_option maxRecDepth 20000
theorem one_u:∀(m:List UInt8),oneCells (m.map encU)=true
 | []=>rfl
 | a::m=>by
  have:=one_u m
  unfold oneCells at this ⊢
  rw[List.map_cons,List.all_cons,this]
  rfl
theorem wpH_appSl{cp:FuncId→Option CF}{A lo:Nat}{H:Heap}{v w:Value}{b:Nat}{l m:List UInt8}{z:List Value}{R:Value→Heap→Prop}(hlo:lo≤H.length)(hA:A≤b)(hAH:A≤H.length)
  (ho:Own lo 1 H v b (l.map encU)) (hw:Sl encU H w m) (hsz:l.length+m.length≤4294967296)
  (k:∀v' H' b',A≤b'→Own lo 1 H' v' b' ((l++m).map encU)→Keep b H H'→R v' H'):wpH cp lo (.app 1 z) [v,w] H R:=by
 have h:=wpH_appStr (cp:=cp) (z:=[]) hlo hA hAH ho hsz k
 have e0:hsem0 lo (.appS []) [v,strV m] H=appendSem lo 1 v (m.map encU) m.length H:=by
  simp only[hsem0,hsem,strV]
  rw[str_size];rfl
 have e1:hsem0 lo (.app 1 z) [v,w] H=appendSem lo 1 v (m.map encU) m.length H:=by
  rcases hw with ⟨rfl,rfl⟩|⟨b',o,sp,cap,xs,rfl,h2,h3,h4,h5,h6⟩
  ·rfl
  ·simp only[hsem0,hsem,Nat.mul_one]
   rw[cells_get h2 (by omega)]
   simp only[Option.bind_some]
   rw[h3,one_u,if_pos rfl]
 simp only[wpH]at h ⊢
 rw[e0]at h
 rw[e1]
 exact h
theorem lawJoiP{H:Heap}{v1 v2:Value}{p q:List UInt8}(hv1:Sl encU H v1 p)(hv2:Sl encU H v2 q)(ht:H.get 0=some pow10V) :
  Ev cpx H.length 10 [v1,v2] H (fun r _=>r=.bool true):=by
 obtain⟨ad,c0,rfl⟩:=hv1.len
 obtain⟨ae,d0,rfl⟩:=hv2.len
 have hX:=exampleP (Nat.le_refl H.length) ht
 refine xt10 ?_
 unfold bd10 cf10
 simp only[kB,ctlB]
 repeat' ((first|refine xSXbo ?_|refine xOXbo rfl ?_);(try simp only[ctlB]))
 refine xCXbo (fun h=>?_) (fun h=>?_)
 ·clear h
  (try simp only[ctlB])
  refine xHXbo ?_
  refine wpH_call0 hX ?_
  rintro r K ⟨-,rfl⟩
  (try simp only[ctlB])
  repeat' ((first|refine xSXbo ?_|refine xOXbo rfl ?_);(try simp only[ctlB]))
  refine xRXbo ?_
  rfl
 have hp:p.length≤100∧q.length≤100:=by simp only[Bool.or_eq_false_iff,decide_eq_false_iff_not]at h;omega
 clear h hX
 (try simp only[ctlB])
 repeat' ((first|refine xSXbo ?_|refine xOXbo rfl ?_);(try simp only[ctlB]))
 refine xHXbo ?_
 refine wpH_appSl (A:=H.length) (b:=H.length) (l:=[]) (m:=p) (Nat.le_refl _) (Nat.le_refl _) (Nat.le_refl _) (Own.nil (Nat.le_refl _)) hv1 (by simp;omega) ?_
 intro v4 K4 b4 hb4 ho4 hk4
 have hx4:=hk4.ext (Ext.refl H) (Nat.le_refl _)
 rw[List.nil_append]at ho4
 have hl4:=hx4.1
 clear hk4
 (try simp only[ctlB])
 repeat' ((first|refine xSXbo ?_|refine xOXbo rfl ?_);(try simp only[ctlB]))
 refine xHXbo ?_
 refine wpH_appSl (A:=H.length) (b:=b4) (l:=p) (m:=q) hl4 hb4 hl4 ho4 (hv2.mono hx4) (by omega) ?_
 intro v5 K5 b5 hb5 ho5 hk5
 have hx5:=hk5.ext hx4 hb4
 have hl5:=hx5.1
 have hSl:=Sl.ofOwn ho5
 have hL1:=lengthP (lo:=H.length) (p:=p) (fun {H0 lo B pv F}=>digP (by omega)) hl5 (hv1.mono hx5) (by omega)
 clear hk5 hx4 hl4 ho4 ho5
 (try simp only[ctlB])
 repeat' ((first|refine xSXbo ?_|refine xOXbo rfl ?_);(try simp only[ctlB]))
 refine xHXbo ?_
 refine wpH_call0 (hL1.sub sub_cpx) ?_
 clear hL1
 rintro r K6 ⟨hx6,w1,T1,rfl,f1,-,g1,b1⟩
 have hx16:=hx5.trans hx6
 have hl6:=hx16.1
 have hSl6:=hSl.mono hx6
 have hL2:=lengthP (lo:=H.length) (p:=q) (fun {H0 lo B pv F}=>digP (by omega)) hl6 (hv2.mono hx16) (by omega)
 have hw1:w1.length≤200:=by
  have:=tx_le f1 p.length (Nat.le_refl _)
  rw[Nat.sub_self]at this;omega
 replace f1:False∨_:=.inr f1
 replace g1:False∨_:=.inr g1
 replace b1:False∨_:=.inr b1
 clear hSl hx6
 (try simp only[ctlB])
 repeat' ((first|refine xSXbo ?_|refine xOXbo rfl ?_);(try simp only[ctlB]))
 refine xHXbo ?_
 refine wpH_call0 (hL2.sub sub_cpx) ?_
 clear hL2
 rintro r K7 ⟨hx7,w2,T2,rfl,f2,-,g2,b2⟩
 have hw2:w2.length≤200:=by
  have:=tx_le f2 q.length (Nat.le_refl _)
  rw[Nat.sub_self]at this;omega
 clear g2
 have hx17:=hx16.trans hx7
 have hl7:=hx17.1
 have hSl7:=hSl6.mono hx7
 have hL3:=lengthP (lo:=H.length) (p:=p++q) (fun {H0 lo B pv F}=>digP (by rw[List.length_append];omega)) hl7 hSl7 (by rw[List.length_append];omega)
 replace f2:False∨_:=.inr f2
 replace b2:False∨_:=.inr b2
 clear hSl6 hx7
 (try simp only[ctlB])
 repeat' ((first|refine xSXbo ?_|refine xOXbo rfl ?_);(try simp only[ctlB]))
 refine xHXbo ?_
 refine wpH_call0 (hL3.sub sub_cpx) ?_
 clear hL3
 rintro r K8 ⟨hx8,w3,T3,rfl,-,-,-,b3⟩
 have hx18:=hx17.trans hx8
 obtain⟨j1,j2⟩:=joins (f1.resolve_left id) (f2.resolve_left id) (g1.resolve_left id) (b1.resolve_left id) (b2.resolve_left id) b3
 have hX:=exampleP hx18.1 (hx18.get ht)
 have j1i:((w3.length:Nat):Int)≤((w1.length:Nat):Int)+((w2.length:Nat):Int)+1:=by omega
 have j2i:((w3.length:Nat):Int)≥((w1.length:Nat):Int):=by omega
 clear b3 f1 f2 g1 b1 b2 hSl7
 (try simp only[ctlB])
 repeat' ((first|refine xSXbo ?_|refine xOXbo rfl ?_);(try simp only[ctlB]))
 refine xTXbo ?_
 refine wpH_call0 hX ?_
 rintro r K9 ⟨-,rfl⟩
 (try simp only[ctlB])
 repeat' ((first|refine xSXbo ?_|refine xOXbo rfl ?_);(try simp only[ctlB]))
 refine xRXbo ?_
 rfl
end Go.Proofs.YtgpolmomghejoaaDoor
