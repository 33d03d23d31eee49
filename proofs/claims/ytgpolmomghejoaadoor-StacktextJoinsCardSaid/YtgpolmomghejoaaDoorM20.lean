/- Lemmas. -/
import Derived.Test.YtgpolmomghejoaaDoorM19
set_option linter.unusedVariables false
set_option linter.unusedSimpArgs false
set_option linter.unusedSectionVars false
namespace Go.Proofs.YtgpolmomghejoaaDoor
open Go.Abs
def g5(N:Nat):List Nat:=[N/900^4%900,N/900^3%900,N/900^2%900,N/900^1%900,N/900^0%900]
theorem numB_g5{N:Nat}(h:N<900^5):numB 900 (g5 N)=N:=by
 have h1:N/900^1=N/900:=by simp
 have h2:N/900^2=N/900/900:=by rw[Nat.div_div_eq_div_mul]
 have h3:N/900^3=N/900/900/900:=by rw[Nat.div_div_eq_div_mul,Nat.div_div_eq_div_mul]
 have h4:N/900^4=N/900/900/900/900:=by rw[Nat.div_div_eq_div_mul,Nat.div_div_eq_div_mul,Nat.div_div_eq_div_mul]
 simp only[g5,numB,List.foldl_cons,List.foldl_nil,h1,h2,h3,h4,Nat.pow_zero,Nat.div_one]
 omega
theorem g5_numB{a b c d e:Nat}(h1:a<900)(h2:b<900)(h3:c<900)(h4:d<900)(h5:e<900):g5 (numB 900 [a,b,c,d,e])=[a,b,c,d,e]:=by
 simp only[g5,numB,List.foldl_cons,List.foldl_nil,List.cons.injEq,and_true]
 refine⟨?_,?_,?_,?_,?_⟩<;>omega
theorem five_of{l:List Nat}(h:l.length=5):∃a b c d e,l=[a,b,c,d,e]:=by
 match l,h with
 | [a,b,c,d,e],_=>exact⟨a,b,c,d,e,rfl⟩
theorem six_of{l:List UInt8}(h:l.length=6):∃a b c d e f,l=[a,b,c,d,e,f]:=by
 match l,h with
 | [a,b,c,d,e,f],_=>exact⟨a,b,c,d,e,f,rfl⟩
theorem by6_num{l:List UInt8}(h:l.length=6):by6 (numB 256 (l.map UInt8.toNat))=l∧numB 256 (l.map UInt8.toNat)<281474976710656:=by
 obtain⟨a,b,c,d,e,f,rfl⟩:=six_of h
 have ha:=a.toNat_lt
 have hb:=b.toNat_lt
 have hc:=c.toNat_lt
 have hd:=d.toNat_lt
 have he:=e.toNat_lt
 have hf:=f.toNat_lt
 have key:∀(x:UInt8) (n:Nat),n%256=x.toNat→UInt8.ofNat n=x:=fun x n hx=>UInt8.toNat_inj.1 (by rw[UInt8.toNat_ofNat'];exact hx)
 simp only[by6,numB,List.map_cons,List.map_nil,List.foldl_cons,List.foldl_nil,List.cons.injEq,and_true]
 refine⟨⟨?_,?_,?_,?_,?_,?_⟩,?_⟩
 ·exact key _ _ (by omega)
 ·exact key _ _ (by omega)
 ·exact key _ _ (by omega)
 ·exact key _ _ (by omega)
 ·exact key _ _ (by omega)
 ·exact key _ _ (by omega)
 ·omega
theorem num_by6{N:Nat}(h:N<281474976710656):numB 256 ((by6 N).map UInt8.toNat)=N:=by
 simp only[by6,numB,List.map_cons,List.map_nil,List.foldl_cons,List.foldl_nil,UInt8.toNat_ofNat']
 have h1:N/256^1=N/256:=by simp
 have h2:N/256^2=N/256/256:=by rw[Nat.div_div_eq_div_mul]
 have h3:N/256^3=N/256/256/256:=by rw[Nat.div_div_eq_div_mul,Nat.div_div_eq_div_mul]
 have h4:N/256^4=N/256/256/256/256:=by rw[Nat.div_div_eq_div_mul,Nat.div_div_eq_div_mul,Nat.div_div_eq_div_mul]
 have h5:N/256^5=N/256/256/256/256/256:=by rw[Nat.div_div_eq_div_mul,Nat.div_div_eq_div_mul,Nat.div_div_eq_div_mul,Nat.div_div_eq_div_mul]
 rw[h1,h2,h3,h4,h5,Nat.pow_zero,Nat.div_one]
 omega
theorem v6_ok{p:List UInt8}{i:Nat}(h:i+6≤p.length):by6 (v6 p i)=(p.drop i).take 6∧v6 p i<281474976710656:=by6_num (by simp;omega)
theorem grpW_len{l:List UInt8}(h:∀b ∈ l,isDg b=true)(hl:l.length≤44):(grpW l).length=l.length/3+1:=by
 have h1:=grpN_lt h
 have hk:((List.range 45).all fun a=>decide (2*10^a≤900^(a/3+1))&&decide (900^(a/3)≤10^a))=true:=by decide
 have h2:=List.all_eq_true.1 hk l.length (List.mem_range.2 (by omega))
 simp only[Bool.and_eq_true,decide_eq_true_eq]at h2
 have h3:(grpW l).length≤l.length/3+1:=by
  unfold grpW b900
  rw[List.length_reverse]
  exact digs_length_le (by decide) _ _ (Nat.lt_of_lt_of_le h1.1 h2.1)
 have h4:=numB_lt (B:=900) (b900_lt (numB 10 (1::dgt l))) (grpW l).length (Nat.le_refl _)
 unfold grpW at h4
 rw[List.take_length,numB_b900]at h4
 by_cases h5:(grpW l).length≤l.length/3
 ·have:(900:Nat)^(grpW l).length≤900^(l.length/3):=Nat.pow_le_pow_right (by decide) h5
  unfold grpW at this
  omega
 ·omega
theorem dgA_dg{p:List UInt8}{i k:Nat}(h:k≤dgA p i):(∀b ∈ (p.drop i).take k,isDg b=true)∧((p.drop i).take k).length=k∧k≤44:=by
 have hl:=dgA_le p i
 have h44:k≤44:=by omega
 have e:(p.drop i).take k=(((p.drop i).take 44).takeWhile isDg).take k:=by
  have hp:((p.drop i).take 44).takeWhile isDg <+: (p.drop i).take 44:=List.takeWhile_prefix _
  obtain⟨r,hr⟩:=hp
  have:((p.drop i).take 44).take k=(p.drop i).take k:=by rw[List.take_take,Nat.min_eq_left h44]
  rw[←this,←hr,List.take_append_of_le_length (by unfold dgA at h;omega),hr]
 refine⟨fun b hb=>?_,by simp;omega,h44⟩
 rw[e]at hb
 have hb:=List.mem_of_mem_take hb
 exact(List.all_eq_true.1 (List.all_takeWhile (p:=isDg) (l:=(p.drop i).take 44))) b hb
theorem grpA_len{p:List UInt8}{i k:Nat}(h:k≤dgA p i):(grpA p i k).length=k/3+1:=by
 obtain⟨h1,h2,h3⟩:=dgA_dg h
 unfold grpA
 rw[grpW_len h1 (by omega),h2]
theorem dg_dgA{p:List UInt8}{i k:Nat}(h:∀b ∈ (p.drop i).take k,isDg b=true)(hk:k≤44)(hi:i+k≤p.length):k≤dgA p i:=by
 have hp:(p.drop i).take k=((p.drop i).take 44).take k:=by rw[List.take_take,Nat.min_eq_left hk]
 have:((p.drop i).take 44)=(p.drop i).take k++((p.drop i).take 44).drop k:=by rw[hp,List.take_append_drop]
 unfold dgA
 rw[this,List.takeWhile_append_of_pos h,List.length_append,List.length_take,List.length_drop]
 omega
theorem okPart_grp{l:List UInt8}(h:∀b ∈ l,isDg b=true)(hl:1≤l.length)(h44:l.length≤44)(b:Bool)(hb:b=true∨l.length=44):okPart b (grpW l)=true∧partS (grpW l)=l:=by
 have h1:numB 900 (grpW l)=numB 10 (1::dgt l):=numB_b900 _
 have h2:=one_dgt h
 have h3:(dgt l).length=l.length:=by simp[dgt]
 refine⟨okPart_iff.2 ?_,?_⟩
 ·rw[h1,h2]
  refine⟨?_,rfl,by simp;omega,by simp;omega,by rcases hb with hb|hb;exact .inl hb;exact .inr (by simp;omega)⟩
  have:=b900_head (numB 10 (1::dgt l))
  unfold grpW
  cases e:b900 (numB 10 (1::dgt l))with
  | nil=>
   have h4:=numB_b900 (numB 10 (1::dgt l))
   rw[e]at h4
   have:=(grpN_lt h).2
   have:=Nat.pow_pos (n:=l.length) (show 0<10 by decide)
   simp[numB]at h4
   simp[numB]at *
   omega
  | cons a m=>
   rw[e]at this
   intro h0
   simp at h0
   exact this (by simp[h0])
 ·unfold partS
  rw[h1,h2,List.drop_one,List.tail_cons,strD_dgt h]
theorem fromN_grp{l:List UInt8}{r:List Nat}(h:∀b ∈ l,isDg b=true)(hl:1≤l.length)(h44:l.length≤44)(hr:r=[]∨l.length=44):fromN (grpW l++r)=(fromN r).map (l++·):=by
 have hg:=grpW_len h h44
 have hg15:(grpW l).length≤15:=by omega
 have hne:grpW l++r≠[]:=fun e=>by rw[List.append_eq_nil_iff]at e;rw[e.1]at hg;simp at hg
 rw[fromN_pos hne]
 by_cases hr0:r=[]
 ·subst hr0
  rw[List.append_nil,List.take_of_length_le hg15,List.drop_eq_nil_of_le hg15]
  obtain⟨h1,h2⟩:=okPart_grp h hl h44 (decide ((grpW l).length≤15)) (.inl (by simpa using hg15))
  rw[if_pos h1,h2]
 ·have h44:l.length=44:=hr.resolve_left hr0
  have hg15:(grpW l).length=15:=by omega
  rw[List.take_append_of_le_length (by omega),List.drop_append_of_le_length (by omega),List.take_of_length_le (by omega),List.drop_eq_nil_of_le (by omega)]
  obtain⟨h1,h2⟩:=okPart_grp h hl (by omega) (decide ((grpW l++r).length≤15)) (.inr h44)
  rw[if_pos h1,h2,List.nil_append]
theorem acc_six{p:List UInt8}{k i:Nat}(hk:k=2∨k=3):∀n a w,n+a=5→1≤a→a≤4→Acc p (k,i,a,0) w→i+6≤p.length∧∃w',w=(g5 (v6 p i)).drop a++w'∧Acc p (k,i+6,0,0) w':=by
 intro n
 induction n with
 | zero=>intro a w h _ h2 _;omega
 | succ n ih=>
  intro a w ha h1 h4 h
  cases w with
  | nil=>rcases hk with rfl|rfl<;>simp[Acc,finS]at h;omega
  | cons x w=>
   obtain⟨t',hm,h⟩:=h
   have hm2:(x,t') ∈ (if i+6≤p.length then[(v6 p i/900^(4-a)%900,if a=4 then((k,i+6,0,0):Thr) else(k,i,a+1,0))] else[]):=by
    rcases hk with rfl|rfl<;>simp only[movS,List.mem_append]at hm<;>rcases hm with hm|hm|hm
    ·rw[if_neg (by omega)]at hm;simp at hm
    ·rw[if_neg (by omega)]at hm;simp at hm
    ·exact hm
    ·rw[if_neg (by omega)]at hm;simp at hm
    ·rw[if_neg (by omega)]at hm;simp at hm
    ·exact hm
   split at hm2
   ·rename_i h6
    simp only[List.mem_cons,List.not_mem_nil,or_false,Prod.mk.injEq]at hm2
    obtain⟨rfl,rfl⟩:=hm2
    refine⟨h6,?_⟩
    rcases(show a=1∨a=2∨a=3∨a=4 by omega)with rfl|rfl|rfl|rfl
    ·obtain⟨-,w',rfl,h7⟩:=ih 2 w (by omega) (by omega) (by omega) h
     exact⟨w',rfl,h7⟩
    ·obtain⟨-,w',rfl,h7⟩:=ih 3 w (by omega) (by omega) (by omega) h
     exact⟨w',rfl,h7⟩
    ·obtain⟨-,w',rfl,h7⟩:=ih 4 w (by omega) (by omega) (by omega) h
     exact⟨w',rfl,h7⟩
    ·exact⟨w,rfl,h⟩
   ·simp at hm2
theorem acc_dig{p:List UInt8}{i a:Nat}(ha:0<a)(hd:a≤dgA p i):∀n b w,n+b=a/3+1→Acc p (behS i a b) w→∃w',w=(grpA p i a).drop b++w'∧Acc p (behS i a (a/3+1)) w':=by
 intro n
 have hl:=grpA_len hd
 induction n with
 | zero=>
  intro b w hb h
  rw[show b=a/3+1 by omega]at *
  exact⟨w,by rw[List.drop_eq_nil_of_le (by omega)];rfl,h⟩
 | succ n ih=>
  intro b w hb h
  rw[behS,if_pos (by omega)]at h
  cases w with
  | nil=>exact absurd h.2 (by omega)
  | cons x w=>
   obtain⟨t',hm,h⟩:=h
   simp only[movS,if_pos ha,List.mem_cons,List.not_mem_nil,or_false,Prod.mk.injEq]at hm
   obtain⟨rfl,rfl⟩:=hm
   obtain⟨w',rfl,h7⟩:=ih (b+1) w (by omega) h
   refine⟨w',?_,h7⟩
   have hbl:b<(grpA p i a).length:=by omega
   rw[List.drop_eq_getElem_cons hbl,List.getD_eq_getElem?_getD,List.getElem?_eq_getElem hbl]
   rfl
theorem dataS_app{d r:List Nat}(h:∀w ∈ d,w<900):dataS (d++r)=d++dataS r:=by
 unfold dataS
 rw[List.takeWhile_append_of_pos (by simpa using h)]
theorem dataS_nil{r:List Nat}(h:∀x,r.head?=some x→900≤x):dataS r=[]:=by
 cases r with
 | nil=>rfl
 | cons x r=>unfold dataS;rw[List.takeWhile_cons,if_neg];have:=h x rfl;simpa using this
theorem byS_app(g:Nat)(a b:List Nat)(h:a.length=5):bytS (g+1) (a++b)=if 281474976710656≤numB 900 a then none else(bytS g b).map (by6 (numB 900 a)++·):=by
 rw[bytS,List.take_append_of_le_length (by omega),List.drop_append_of_le_length (by omega),List.take_of_length_le (by omega),List.drop_eq_nil_of_le (by omega),List.nil_append]
theorem take_join{α:Type}(p:List α)(i j k:Nat):(p.drop i).take j++(p.drop (i+j)).take k=(p.drop i).take (j+k):=by
 rw[List.take_add,List.drop_drop]
theorem take_next{α:Type}(p:List α)(i j:Nat):p.take i++(p.drop i).take j=p.take (i+j):=by rw[List.take_add]
def RestS(p:List UInt8)(i:Nat)(w:List Nat):Prop:=(∀x,w.head?=some x→900≤x∧x≠913)∧∀n,w.length<n→decG n w 0 0 (p.take i)=(p,0)
structure Cl (p:List UInt8)(w:List Nat):Prop where
 A:∀i a,i≤p.length→a<12→Acc p (0,i,a,0) w→∀n,w.length<n→decG n w (a/3) (a%3) (p.take i)=(p,0)
 C:∀i,i≤p.length→(Acc p (6,i,0,0) w)→RestS p i w∧∀n,w.length<n→∀s h,decG n w s h (p.take i)=(p,0)
 T:∀i a,i≤p.length→1≤a→a≤5→Acc p (4,i,a,0) w→∃j,j+a≤5∧i+j≤p.length∧dataS w=((p.drop i).take j).map UInt8.toNat∧RestS p (i+j) (w.drop (dataS w).length)
 N:∀i,i≤p.length→Acc p (3,i,0,0) w→∃g r,1≤r∧r≤5∧i+(6*g+r)≤p.length∧(dataS w).length=5*g+r∧bytS g (dataS w)=some ((p.drop i).take (6*g+r))∧RestS p (i+(6*g+r)) (w.drop (dataS w).length)
 S:∀i,i≤p.length→Acc p (2,i,0,0) w→∃g,i+6*g≤p.length∧(dataS w).length=5*g∧bytS g (dataS w)=some ((p.drop i).take (6*g))∧RestS p (i+6*g) (w.drop (dataS w).length)
 D:∀i,i≤p.length→Acc p (5,i,0,0) w→∃j,i+j≤p.length∧fromN (dataS w)=some ((p.drop i).take j)∧RestS p (i+j) (w.drop (dataS w).length)
theorem decG_run{c n s h:Nat}{r:List Nat}{out t:List UInt8}(hc:c=901∨c=902∨c=924)(hr:runS c (dataS r)=(t,0))(hh:(r.drop (dataS r).length).head?≠some 913):decG (n+1) (c::r) s h out=decG n (r.drop (dataS r).length) 0 0 (out++t):=by
 rw[decG_cons,if_neg (by omega),if_neg (by omega),if_neg (by omega),if_pos hc,hr]
 simp only[if_neg hh]
theorem rest_head{p:List UInt8}{i:Nat}{w:List Nat}(h:RestS p i w):w.head?≠some 913:=fun e=>(h.1 _ e).2 rfl
theorem cl_cmd{p:List UInt8}{i x:Nat}{t':Thr}{w:List Nat}(hi:i≤p.length)(ih:Cl p w)(hm:(x,t') ∈ cmdS i)(h:Acc p t' w){n:Nat}(hn:(x::w).length<n)(s sh:Nat):decG n (x::w) s sh (p.take i)=(p,0):=by
 obtain⟨n,rfl⟩:∃m,n=m+1:=⟨n-1,by omega⟩
 simp only[List.length_cons]at hn
 have hdl:=dataS_len w
 simp only[cmdS,List.mem_cons,List.not_mem_nil,or_false,Prod.mk.injEq]at hm
 rcases hm with ⟨rfl,rfl⟩|⟨rfl,rfl⟩|⟨rfl,rfl⟩|⟨rfl,rfl⟩
 ·rw[decG_cons,if_neg (by omega),if_pos rfl]
  exact ih.A i 0 hi (by omega) h n (by omega)
 ·obtain⟨g,r,h1,h2,h3,h4,h5,h6⟩:=ih.N i hi h
  have hr:runS 901 (dataS w)=((p.drop i).take (6*g+r),0):=by
   rw[runS,if_neg (by omega),if_neg (by omega),if_pos rfl,h4,show(5*g+r-1)/5=g by omega,h5]
  rw[decG_run (.inl rfl) hr (rest_head h6),take_next]
  exact h6.2 n (by rw[List.length_drop];omega)
 ·obtain⟨j,h3,h5,h6⟩:=ih.D i hi h
  have hr:runS 902 (dataS w)=((p.drop i).take j,0):=by
   rw[runS,if_pos rfl,h5]
  rw[decG_run (.inr (.inl rfl)) hr (rest_head h6),take_next]
  exact h6.2 n (by rw[List.length_drop];omega)
 ·obtain⟨g,h3,h4,h5,h6⟩:=ih.S i hi h
  have hr:runS 924 (dataS w)=((p.drop i).take (6*g),0):=by
   rw[runS,if_neg (by omega),if_neg (by omega),if_neg (by omega),h4,show(5*g)/5=g by omega,h5]
  rw[decG_run (.inr (.inr rfl)) hr (rest_head h6),take_next]
  exact h6.2 n (by rw[List.length_drop];omega)
theorem rest_cmd{p:List UInt8}{i x:Nat}{t':Thr}{w:List Nat}(hi:i≤p.length)(ih:Cl p w)(hm:(x,t') ∈ cmdS i)(h:Acc p t' w):RestS p i (x::w):=by
 have:=mem_cmd (T:=⟨fun _ _=>0,fun _=>0,fun _=>0,fun _ _=>0,fun _=>0,fun _=>0⟩) hm hi
 exact⟨fun y hy=>by cases hy;exact⟨this.2.2.1,this.2.2.2.2⟩,fun n hn=>cl_cmd hi ih hm h hn 0 0⟩
theorem rest_nil{p:List UInt8}:RestS p p.length []:=⟨fun x hx=>by simp at hx,fun n hn=>by
 obtain⟨n,rfl⟩:∃m,n=m+1:=⟨n-1,by omega⟩
 rw[decG,List.take_length]⟩
theorem rest_data{p:List UInt8}{i:Nat}{w:List Nat}(h:RestS p i w):dataS w=[]:=dataS_nil fun x hx=>(h.1 x hx).1
theorem cl_nil(p:List UInt8):Cl p [] where
 A:=fun i a hi ha h n hn=>by
  obtain⟨n,rfl⟩:∃m,n=m+1:=⟨n-1,by simp at hn;omega⟩
  have h:i=p.length:=h
  subst h
  rw[decG,List.take_length]
 C:=fun i hi h=>by
  have h:i=p.length:=h
  subst h
  refine⟨rest_nil,fun n hn s h=>?_⟩
  obtain⟨n,rfl⟩:∃m,n=m+1:=⟨n-1,by simp at hn;omega⟩
  rw[decG,List.take_length]
 T:=fun i a hi h1 h2 h=>by
  have h:i=p.length:=h
  subst h
  exact⟨0,by omega,by omega,by simp[dataS],rest_nil⟩
 N:=fun i hi h=>by simp[Acc,finS]at h
 S:=fun i hi h=>by
  obtain⟨h,-⟩:i=p.length∧_:=h
  subst h
  exact⟨0,by omega,by simp[dataS],by simp[dataS,bytS],rest_nil⟩
 D:=fun i hi h=>by
  obtain⟨h,-⟩:i=p.length∧_:=h
  subst h
  exact⟨0,by omega,by simp[dataS,fromN_nil],rest_nil⟩
theorem g5_lt(N:Nat):∀w ∈ g5 N,w<900:=by
 intro w hw
 simp only[g5,List.mem_cons,List.not_mem_nil,or_false]at hw
 rcases hw with rfl|rfl|rfl|rfl|rfl<;>exact Nat.mod_lt _ (by decide)
theorem take_one{p:List UInt8}{i:Nat}(h:i<p.length):(p.drop i).take 1=[p.getD i 0]:=by
 rw[List.take_one,List.head?_drop,List.getD_eq_getElem?_getD,List.getElem?_eq_getElem h]
 rfl
theorem map_ofNat(l:List UInt8):(l.map UInt8.toNat).map UInt8.ofNat=l:=by
 rw[List.map_map]
 conv=>rhs;rw[←List.map_id l]
 exact List.map_congr_left fun b _=>by simp
theorem six_app{p:List UInt8}{i g:Nat}{r:List Nat}{t:List UInt8}(h6:i+6≤p.length)(hr:bytS g (dataS r)=some t):(dataS (g5 (v6 p i)++r)).length=5+(dataS r).length∧bytS (g+1) (dataS (g5 (v6 p i)++r))=some ((p.drop i).take 6++t):=by
 have hv:=v6_ok h6
 have hv9:v6 p i<900^5:=Nat.lt_trans hv.2 (by decide)
 rw[dataS_app (g5_lt _)]
 refine⟨by simp[g5];omega,?_⟩
 rw[byS_app _ _ _ rfl,numB_g5 hv9,if_neg (by omega),hr,hv.1]
 rfl
theorem rest_drop{p:List UInt8}{i:Nat}{d r:List Nat}(h:RestS p i (r.drop (dataS r).length))(hd:∀w ∈ d,w<900):RestS p i ((d++r).drop (dataS (d++r)).length):=by
 rw[dataS_app hd,List.length_append,←List.drop_drop,List.drop_left]
 exact h
theorem cl_cons{p:List UInt8}{x:Nat}{w:List Nat}(ih:∀w',w'.length≤w.length→Cl p w'):Cl p (x::w) where
 A:=fun i a hi ha h n hn=>by
  obtain⟨t',hm,h⟩:=h
  simp only[List.length_cons]at hn
  obtain⟨n,rfl⟩:∃m,n=m+1:=⟨n-1,by omega⟩
  simp only[movS,List.mem_append,List.mem_map]at hm
  rcases hm with ⟨y,hy,e⟩|hm|hm
  ·injection e with e1 e2
   subst e2
   obtain⟨u,v,c,d,k,m,s,h1,hu,hv,h3,h4,h5,h6,h7,h8,h9,h10,h11⟩:=mem_arc hy ha hi
   have ex:x=30*u+v:=by omega
   have e3:x/30=u:=by omega
   have e4:x%30=v:=by omega
   rw[decG_cons,if_pos (by omega),e3,e4,h3]
   simp only
   rw[h4]
   simp only
   rw[h5,h6,List.append_assoc,take_join,take_next]
   have:=(ih w (Nat.le_refl _)).A (i+y.2.1) y.2.2 (by omega) h8 h n (by omega)
   rw[h7]at this
   exact this
  ·split at hm
   ·rename_i hlt
    simp only[List.mem_cons,List.not_mem_nil,or_false,Prod.mk.injEq]at hm
    obtain⟨rfl,rfl⟩:=hm
    cases w with
    | nil=>exact h.elim
    | cons z w=>
     obtain⟨t',hm,h⟩:=h
     simp only[movS,List.mem_cons,List.not_mem_nil,or_false,Prod.mk.injEq]at hm
     obtain⟨rfl,rfl⟩:=hm
     simp only[List.length_cons]at hn
     have h255:byA p i≤255:=by have:=(p.getD i 0).toNat_lt;unfold byA;omega
     rw[decG_cons,if_neg (by omega),if_neg (by omega),if_pos rfl]
     simp only
     rw[if_neg (by omega),show UInt8.ofNat (byA p i)=p.getD i 0 by simp[byA],←take_one hlt,take_next]
     have:=(ih w (by simp)).A (i+1) (a/3*3) (by omega) (by omega) h n (by omega)
     rw[show a/3*3/3=a/3 by omega,show a/3*3%3=0 by omega]at this
     exact this
   ·simp at hm
  ·exact cl_cmd hi (ih w (Nat.le_refl _)) hm h (by simp only[List.length_cons];omega) _ _
 C:=fun i hi h=>by
  obtain⟨t',hm,h⟩:=h
  exact⟨rest_cmd hi (ih w (Nat.le_refl _)) hm h,fun n hn s sh=>cl_cmd hi (ih w (Nat.le_refl _)) hm h hn s sh⟩
 T:=fun i a hi h1 h5 h=>by
  obtain⟨t',hm,h⟩:=h
  simp only[movS,List.mem_append]at hm
  rcases hm with hm|hm
  ·split at hm
   ·rename_i h0
    simp only[List.mem_cons,List.not_mem_nil,or_false,Prod.mk.injEq]at hm
    obtain⟨rfl,rfl⟩:=hm
    have h255:byA p i≤255:=by have:=(p.getD i 0).toNat_lt;unfold byA;omega
    obtain⟨j,h2,h3,h4,h6⟩:=(ih w (Nat.le_refl _)).T (i+1) (a+1) (by omega) (by omega) (by omega) h
    have e:byA p i::w=[byA p i]++w:=rfl
    have hd:∀z ∈ [byA p i],z<900:=by intro z hz;simp at hz;omega
    refine⟨j+1,by omega,by omega,?_,?_⟩
    ·rw[e,dataS_app hd,h4,Nat.add_comm j 1,←take_join,take_one h0.2]
     rfl
    ·rw[show i+(j+1)=i+1+j by omega,e]
     exact rest_drop h6 hd
   ·simp at hm
  ·have hr:=rest_cmd hi (ih w (Nat.le_refl _)) hm h
   have hd:=rest_data hr
   exact⟨0,by omega,by omega,by rw[hd];simp,by rw[hd];exact hr⟩
 N:=fun i hi h=>by
  obtain⟨t',hm,h⟩:=h
  simp only[movS,List.mem_append]at hm
  rcases hm with hm|hm|hm
  ·simp at hm
  ·split at hm
   ·rename_i h0
    simp only[List.mem_cons,List.not_mem_nil,or_false,Prod.mk.injEq]at hm
    obtain⟨rfl,rfl⟩:=hm
    have h255:byA p i≤255:=by have:=(p.getD i 0).toNat_lt;unfold byA;omega
    obtain⟨j,h2,h3,h4,h6⟩:=(ih w (Nat.le_refl _)).T (i+1) 1 (by omega) (by omega) (by omega) h
    have e:byA p i::w=[byA p i]++w:=rfl
    have hd:∀z ∈ [byA p i],z<900:=by intro z hz;simp at hz;omega
    have hds:dataS (byA p i::w)=((p.drop i).take (1+j)).map UInt8.toNat:=by
     rw[e,dataS_app hd,h4,←take_join,take_one h0.2.2]
     rfl
    refine⟨0,1+j,by omega,by omega,by omega,by rw[hds];simp;omega,?_,?_⟩
    ·rw[hds,bytS,if_pos]
     ·rw[map_ofNat];simp
     ·rw[List.all_eq_true]
      intro z hz
      obtain⟨y,-,rfl⟩:=List.mem_map.1 hz
      have:=y.toNat_lt
      exact decide_eq_true (by omega)
    ·rw[show i+(6*0+(1+j))=i+1+j by omega,e]
     exact rest_drop h6 hd
   ·simp at hm
  ·split at hm
   ·rename_i h6
    simp only[List.mem_cons,List.not_mem_nil,or_false,Prod.mk.injEq]at hm
    obtain⟨rfl,rfl⟩:=hm
    rw[if_neg (by decide)]at h
    obtain⟨-,w',rfl,hq⟩:=acc_six (.inr rfl) 4 1 _ rfl (by omega) (by omega) h
    obtain⟨g,r,h1,h2,h3,h4,h5,h7⟩:=(ih w' (by simp)).N (i+6) h6 hq
    have e:v6 p i/900^(4-0)%900::((g5 (v6 p i)).drop 1++w')=g5 (v6 p i)++w':=rfl
    rw[e]
    obtain⟨h8,h9⟩:=six_app h6 h5
    refine⟨g+1,r,h1,h2,by omega,by omega,?_,?_⟩
    ·rw[h9,take_join,show 6+(6*g+r)=6*(g+1)+r by omega]
    ·rw[show i+(6*(g+1)+r)=i+6+(6*g+r) by omega]
     exact rest_drop h7 (g5_lt _)
   ·simp at hm
 S:=fun i hi h=>by
  obtain⟨t',hm,h⟩:=h
  simp only[movS,List.mem_append]at hm
  rcases hm with hm|hm|hm
  ·rw[if_pos ⟨trivial,trivial⟩]at hm
   have hr:=rest_cmd hi (ih w (Nat.le_refl _)) hm h
   have hd:=rest_data hr
   exact⟨0,by omega,by rw[hd];rfl,by rw[hd];rfl,by rw[hd];exact hr⟩
  ·simp at hm
  ·split at hm
   ·rename_i h6
    simp only[List.mem_cons,List.not_mem_nil,or_false,Prod.mk.injEq]at hm
    obtain⟨rfl,rfl⟩:=hm
    rw[if_neg (by decide)]at h
    obtain⟨-,w',rfl,hq⟩:=acc_six (.inl rfl) 4 1 _ rfl (by omega) (by omega) h
    obtain⟨g,h3,h4,h5,h7⟩:=(ih w' (by simp)).S (i+6) h6 hq
    have e:v6 p i/900^(4-0)%900::((g5 (v6 p i)).drop 1++w')=g5 (v6 p i)++w':=rfl
    rw[e]
    obtain⟨h8,h9⟩:=six_app h6 h5
    refine⟨g+1,by omega,by omega,?_,?_⟩
    ·rw[h9,take_join,show 6+6*g=6*(g+1) by omega]
    ·rw[show i+6*(g+1)=i+6+6*g by omega]
     exact rest_drop h7 (g5_lt _)
   ·simp at hm
 D:=fun i hi h=>by
  obtain⟨t',hm,h⟩:=h
  simp only[movS,Nat.lt_irrefl,if_false,List.mem_append,List.mem_map,List.mem_range]at hm
  rcases hm with hm|⟨k,hk,e⟩
  ·have hr:=rest_cmd hi (ih w (Nat.le_refl _)) hm h
   have hd:=rest_data hr
   exact⟨0,by omega,by rw[hd,fromN_nil];simp,by rw[hd];exact hr⟩
  ·injection e with e1 e2
   subst e2
   have hk1:k+1≤dgA p i:=by omega
   have hle:=dgA_le p i
   obtain⟨hg1,hg2,hg3⟩:=dgA_dg hk1
   have hgl:=grpA_len hk1
   obtain⟨w',rfl,hq⟩:=acc_dig (by omega) hk1 ((k+1)/3) 1 w (by omega) h
   have e:x::((grpA p i (k+1)).drop 1++w')=grpA p i (k+1)++w':=by
    rw[←e1]
    cases hgg:grpA p i (k+1)with
    | nil=>rw[hgg]at hgl;simp at hgl
    | cons a l=>rfl
   have hlt:∀z ∈ grpA p i (k+1),z<900:=b900_lt _
   rw[e]
   unfold behS at hq
   rw[if_neg (by omega)]at hq
   have hlen:w'.length≤((grpA p i (k+1)).drop 1++w').length:=by simp
   split at hq
   ·rename_i h44
    obtain⟨j,h1,h2,h3⟩:=(ih w' hlen).D (i+(k+1)) (by omega) hq
    refine⟨k+1+j,by omega,?_,?_⟩
    ·rw[dataS_app hlt,grpA,fromN_grp hg1 (by omega) (by omega) (.inr (by omega)),h2,←take_join p i (k+1) j]
     rfl
    ·rw[←Nat.add_assoc]
     exact rest_drop h3 hlt
   ·have hr:=((ih w' hlen).C (i+(k+1)) (by omega) hq).1
    have hd:=rest_data hr
    refine⟨k+1,by omega,?_,?_⟩
    ·rw[dataS_app hlt,hd,grpA,fromN_grp hg1 (by omega) (by omega) (.inl rfl),fromN_nil]
     simp
    ·refine rest_drop (r:=w') ?_ hlt
     rw[hd];exact hr
theorem cl_all(p:List UInt8):∀(m:Nat) (w:List Nat),w.length≤m→Cl p w
 | _,[],_=>cl_nil p
 | 0,_::_,h=>by simp at h
 | m+1,x::w,h=>cl_cons fun w' hw=>cl_all p m w' (by simp at h;omega)
theorem mem_928{p:List UInt8}{t t':Thr}{x:Nat}(hv:VT p t)(h:(x,t') ∈ movS p t):x≤928:=by
 obtain⟨k,i,a,b⟩:=t
 have hb:∀i,byA p i≤928:=fun i=>by have:=(p.getD i 0).toNat_lt;unfold byA;omega
 have hc:∀{x t'},(x,t') ∈ cmdS i→x≤928:=fun h=>by
  simp only[cmdS,List.mem_cons,List.not_mem_nil,or_false,Prod.mk.injEq]at h
  omega
 have hm:∀N,N%900≤928:=fun N=>by have:=Nat.mod_lt N (show 0<900 by decide);omega
 have hg:∀a b,(grpA p i a).getD b 0≤928:=fun a b=>by
  by_cases h:b<(grpA p i a).length
  ·rw[List.getD_eq_getElem?_getD,List.getElem?_eq_getElem h]
   have:=b900_lt _ _ (List.getElem_mem h)
   simp only[Option.getD_some]
   omega
  ·rw[List.getD_eq_getElem?_getD,List.getElem?_eq_none (by omega)]
   simp
 match k,hv with
 | 0,hv=>
  simp only[movS,List.mem_append,List.mem_map]at h
  rcases h with ⟨y,hy,e⟩|h|h
  ·injection e with e1 e2
   obtain⟨u,v,c,d,k,m,s,h1,hu,hv2,-⟩:=mem_arc hy hv.2.1 hv.1
   omega
  ·split at h
   ·simp only[List.mem_cons,List.not_mem_nil,or_false,Prod.mk.injEq]at h
    omega
   ·simp at h
  ·exact hc h
 | 1,hv=>
  simp only[movS,List.mem_cons,List.not_mem_nil,or_false,Prod.mk.injEq]at h
  rw[h.1];exact hb i
 | 2,hv=>
  simp only[movS,List.mem_append]at h
  rcases h with h|h|h
  ·split at h
   ·exact hc h
   ·simp at h
  ·simp at h
  ·split at h
   ·simp only[List.mem_cons,List.not_mem_nil,or_false,Prod.mk.injEq]at h
    rw[h.1];exact hm _
   ·simp at h
 | 3,hv=>
  simp only[movS,List.mem_append]at h
  rcases h with h|h|h
  ·split at h
   ·exact hc h
   ·simp at h
  ·split at h
   ·simp only[List.mem_cons,List.not_mem_nil,or_false,Prod.mk.injEq]at h
    rw[h.1];exact hb i
   ·simp at h
  ·split at h
   ·simp only[List.mem_cons,List.not_mem_nil,or_false,Prod.mk.injEq]at h
    rw[h.1];exact hm _
   ·simp at h
 | 4,hv=>
  simp only[movS,List.mem_append]at h
  rcases h with h|h
  ·split at h
   ·simp only[List.mem_cons,List.not_mem_nil,or_false,Prod.mk.injEq]at h
    rw[h.1];exact hb i
   ·simp at h
  ·exact hc h
 | 5,hv=>
  simp only[movS]at h
  split at h
  ·simp only[List.mem_cons,List.not_mem_nil,or_false,Prod.mk.injEq]at h
   rw[h.1];exact hg _ _
  ·simp only[List.mem_append,List.mem_map,List.mem_range]at h
   rcases h with h|⟨k,hk,e⟩
   ·exact hc h
   ·injection e with e1 e2
    rw[←e1];exact hg _ _
 | 6,hv=>exact hc h
theorem pre_app{α:Type}{a b q:List α}(h:a++b <+: q):a <+: q:=by
 obtain⟨r,hr⟩:=h
 exact⟨b++r,by rw[←List.append_assoc];exact hr⟩
theorem decG_pre:∀(n:Nat) (w:List Nat) (s h:Nat) (out q:List UInt8),decG n w s h out=(q,0)→out <+: q
 | 0,w,s,h,out,q,e=>by rw[decG]at e;injection e with e;exact e▸List.prefix_rfl
 | n+1,[],s,h,out,q,e=>by rw[decG]at e;injection e with e;exact e▸List.prefix_rfl
 | n+1,x::r,s,h,out,q,e=>by
  rw[decG_cons]at e
  split at e
  ·split at e
   ·simp at e
   ·split at e
    ·simp at e
    ·have:=decG_pre n _ _ _ _ _ e
     rw[List.append_assoc]at this
     exact pre_app this
  ·split at e
   ·exact decG_pre n _ _ _ _ _ e
   ·split at e
    ·split at e
     ·simp at e
     ·split at e
      ·simp at e
      ·exact pre_app (decG_pre n _ _ _ _ _ e)
    ·split at e
     ·rcases hr:runS x (dataS r)with ⟨t,e0⟩
      rw[hr]at e
      cases e0 with
      | zero=>
       simp only at e
       split at e
       ·simp at e
       ·exact pre_app (decG_pre n _ _ _ _ _ e)
      | succ k=>simp at e
     ·simp at e
theorem part_of{p t:List UInt8}{i:Nat}(hi:i≤p.length)(h:p.take i++t <+: p):(p.drop i).take t.length=t∧i+t.length≤p.length:=by
 obtain⟨r,hr⟩:=h
 have h1:(p.take i).length=i:=by simp;omega
 have h2:p.drop i=t++r:=by
  have:(p.take i++t++r).drop i=t++r:=by rw[List.append_assoc,List.drop_append_of_le_length (by omega),List.drop_eq_nil_of_le (by omega),List.nil_append]
  rw[hr]at this;exact this
 have h3:=congrArg List.length hr
 simp only[List.length_append,h1]at h3
 exact⟨by rw[h2,List.take_left],by omega⟩
theorem tk_of{p:List UInt8}{s:Nat×Nat}{v i:Nat}{c:Int}{x y:Nat}(h:stp s.1 s.2 v=some (c,x,y))(h1:s.1<4)(h2:s.2<3)(h3:v<30)(hp:(p.drop i).take (chS c).length=chS c)(hi:i+(chS c).length≤p.length):tkS p s v i=some ((x,y),(chS c).length):=by
 have hok:=stp_ok h1 h2 h3 h
 unfold tkS
 rw[h]
 simp only
 by_cases hc:c<0
 ·have:chS c=[]:=by rw[chS,if_neg (by omega)]
  rw[if_pos hc,this];rfl
 ·have e:chS c=[UInt8.ofNat c.toNat]:=by rw[chS,if_pos (by omega)]
  rw[e]at hp hi ⊢
  simp only[List.length_singleton]at hp hi ⊢
  rw[take_one (by omega)]at hp
  injection hp with hp
  rw[if_neg hc,if_pos]
  refine⟨by omega,?_⟩
  rw[hp,UInt8.toNat_ofNat',Nat.mod_eq_of_lt (by omega)]
  omega
def headC(w:List Nat):Prop:=∀x,w.head?=some x→900≤x∧x≠913
theorem acc_cmd{p:List UInt8}{i a:Nat}(hi:i≤p.length)(ha:a<12):∀{w:List Nat},Acc p (0,i,a,0) w→headC w→Acc p (6,i,0,0) w
 | [],h,_=>h
 | x::w,⟨t',hm,h⟩,hc=>by
  obtain⟨h9,h13⟩:=hc x rfl
  simp only[movS,List.mem_append,List.mem_map]at hm
  rcases hm with ⟨y,hy,e⟩|hm|hm
  ·injection e with e1 e2
   obtain⟨u,v,c,d,k,m,s,h1,hu,hv,-⟩:=mem_arc hy ha hi
   omega
  ·split at hm
   ·simp only[List.mem_cons,List.not_mem_nil,or_false,Prod.mk.injEq]at hm
    omega
   ·simp at hm
  ·exact⟨t',hm,h⟩
theorem acc_end{p:List UInt8}{t:Thr}{i:Nat}{w:List Nat}(h:Acc p (6,i,0,0) w)(hc:HasCmd p t i)(hf:i=p.length→finS p t):Acc p t w:=by
 cases w with
 | nil=>exact hf h
 | cons x v=>obtain⟨t',h3,h4⟩:=h;exact⟨t',hc _ h3,h4⟩
theorem acc_six5{p:List UInt8}{k i:Nat}(hk:k=2∨k=3)(h6:i+6≤p.length){v:List Nat}(h:Acc p (k,i+6,0,0) v):Acc p (k,i,0,0) (g5 (v6 p i)++v):=by
 have hm:∀a,(v6 p i/900^(4-a)%900,if a=4 then((k,i+6,0,0):Thr) else(k,i,a+1,0)) ∈ movS p (k,i,a,0):=fun a=>by
  rcases hk with rfl|rfl<;>simp only[movS,List.mem_append]<;>exact .inr (.inr (by simp[h6]))
 exact⟨_,hm 0,_,hm 1,_,hm 2,_,hm 3,_,hm 4,h⟩
theorem acc_sixes{p:List UInt8}{k:Nat}(hk:k=2∨k=3):∀(g i:Nat) (d:List Nat) (t:List UInt8),5*g≤d.length→(∀w ∈ d,w<900)→bytS g d=some t→(p.drop i).take t.length=t→i+t.length≤p.length →
  ∃t2,t.length=6*g+t2.length∧bytS 0 (d.drop (5*g))=some t2∧(p.drop (i+6*g)).take t2.length=t2∧∀v,Acc p (k,i+6*g,0,0) (d.drop (5*g)++v)→Acc p (k,i,0,0) (d++v):=by
 intro g
 induction g with
 | zero=>intro i d t h1 h2 h3 h4 h5;exact⟨t,by omega,h3,h4,fun v hv=>hv⟩
 | succ g ih=>
  intro i d t h1 h2 h3 h4 h5
  have hd:d=d.take 5++d.drop 5:=(List.take_append_drop 5 d).symm
  have hl:(d.take 5).length=5:=by simp;omega
  obtain⟨a,b,c,e,f,hl5⟩:=five_of hl
  have hlt:∀w ∈ d.take 5,w<900:=fun w hw=>h2 w (List.mem_of_mem_take hw)
  have hg:=h3
  rw[hd,byS_app _ _ _ hl]at hg
  split at hg
  ·cases hg
  ·rename_i hN
   cases hb:bytS g (d.drop 5)with
   | none=>rw[hb]at hg;cases hg
   | some t'=>
    rw[hb]at hg
    simp only[Option.map_some,Option.some.injEq]at hg
    subst hg
    have h6:(by6 (numB 900 (d.take 5))).length=6:=rfl
    simp only[List.length_append,h6]at h4 h5
    rw[←take_join]at h4
    have hsp:=List.append_inj h4 (by simp;omega)
    have hv:v6 p i=numB 900 (d.take 5):=by
     unfold v6
     rw[hsp.1,num_by6 (by omega)]
    have hgd:g5 (v6 p i)=d.take 5:=by
     rw[hv,hl5]
     rw[hl5]at hlt
     exact g5_numB (hlt a (by simp)) (hlt b (by simp)) (hlt c (by simp)) (hlt e (by simp)) (hlt f (by simp))
    obtain⟨t2,e1,e2,e3,e4⟩:=ih (i+6) (d.drop 5) t' (by simp;omega) (fun w hw=>h2 w (List.mem_of_mem_drop hw)) hb hsp.2 (by omega)
    refine⟨t2,by simp only[List.length_append,h6];omega,?_,?_,?_⟩
    ·rw[List.drop_drop]at e2
     rw[show 5*(g+1)=5+5*g by omega];exact e2
    ·rw[show i+6*(g+1)=i+6+6*g by omega];exact e3
    ·intro v hv2
     have:=acc_six5 hk (i:=i) (by omega) (e4 v (by rw[List.drop_drop,show i+6+6*g=i+6*(g+1) by omega,show 5+5*g=5*(g+1) by omega];exact hv2))
     rw[hgd,←List.append_assoc,←hd]at this
     exact this
theorem acc_tail{p:List UInt8}:∀(l:List Nat) (i a:Nat),1≤a→a+l.length≤5→(∀w ∈ l,w≤255)→(p.drop i).take l.length=l.map UInt8.ofNat→i+l.length≤p.length→∀v,Acc p (6,i+l.length,0,0) v→Acc p (4,i,a,0) (l++v)
 | [],i,a,h1,h2,h3,h4,h5,v,hv=>acc_end hv (has4 p i a 0) fun h=>h
 | x::l,i,a,h1,h2,h3,h4,h5,v,hv=>by
  simp only[List.length_cons,List.map_cons]at h2 h4 h5 hv
  rw[Nat.add_comm,←take_join,take_one (by omega),List.singleton_append]at h4
  injection h4 with h6 h7
  have hx:=h3 x (by simp)
  have e:byA p i=x:=by rw[byA,h6,UInt8.toNat_ofNat',Nat.mod_eq_of_lt (by omega)]
  refine⟨(4,i+1,a+1,0),?_,acc_tail l (i+1) (a+1) (by omega) (by omega) (fun w hw=>h3 w (by simp[hw])) h7 (by omega) v (by rw[show i+1+l.length=i+(l.length+1) by omega];exact hv)⟩
  simp only[movS,List.mem_append]
  refine .inl ?_
  rw[if_pos (by omega),e]
  exact List.mem_singleton.2 rfl
theorem byt0{l:List Nat}{t:List UInt8}(h:bytS 0 l=some t):(∀w ∈ l,w≤255)∧t=l.map UInt8.ofNat:=by
 rw[bytS]at h
 split at h
 ·rename_i h0
  injection h with h
  exact⟨fun w hw=>of_decide_eq_true (List.all_eq_true.1 h0 w hw),h.symm⟩
 ·cases h
theorem acc_nine{p:List UInt8}{l:List Nat}{i:Nat}(h0:1≤l.length)(h1:l.length≤5)(h3:∀w ∈ l,w≤255)(h4:(p.drop i).take l.length=l.map UInt8.ofNat)(h5:i+l.length≤p.length){v:List Nat}(hv:Acc p (6,i+l.length,0,0) v):Acc p (3,i,0,0) (l++v):=by
 cases l with
 | nil=>simp at h0
 | cons x l=>
  simp only[List.length_cons,List.map_cons]at h1 h4 h5 hv
  rw[Nat.add_comm,←take_join,take_one (by omega),List.singleton_append]at h4
  injection h4 with h6 h7
  have hx:=h3 x (by simp)
  have e:byA p i=x:=by rw[byA,h6,UInt8.toNat_ofNat',Nat.mod_eq_of_lt (by omega)]
  refine⟨(4,i+1,1,0),?_,acc_tail l (i+1) 1 (by omega) (by omega) (fun w hw=>h3 w (by simp[hw])) h7 (by omega) v (by rw[show i+1+l.length=i+(l.length+1) by omega];exact hv)⟩
  simp only[movS,List.mem_append]
  refine .inr (.inl ?_)
  rw[if_pos ⟨trivial,trivial,by omega⟩,e]
  exact List.mem_singleton.2 rfl
theorem grp_ok{b:Bool}{q:List Nat}(hq:∀w ∈ q,w<900)(h:okPart b q=true):(∀c ∈ partS q,isDg c=true)∧1≤(partS q).length∧(partS q).length≤44∧grpW (partS q)=q∧(b=true∨(partS q).length=44):=by
 obtain⟨h1,h2,h3,h4,h5⟩:=okPart_iff.1 h
 have hd:=dec_lt (numB 900 q)
 have hl:(partS q).length=(dec (numB 900 q)).length-1:=by simp[partS,strD]
 have hd1:∀d ∈ (dec (numB 900 q)).drop 1,d<10:=fun d hm=>hd d (List.mem_of_mem_drop hm)
 refine⟨strD_dg _ hd1,by omega,by omega,?_,by rcases h5 with h5|h5;exact .inl h5;exact .inr (by omega)⟩
 unfold grpW partS
 rw[dgt_strD hd1]
 have e:1::(dec (numB 900 q)).drop 1=dec (numB 900 q):=by
  cases hc:dec (numB 900 q)with
  | nil=>rw[hc]at h3;simp at h3
  | cons a l=>rw[hc]at h2;simp at h2;subst h2;rfl
 rw[e,numB_dec]
 refine b900_of hq ?_
 cases q with
 | nil=>simp
 | cons a l=>simp at h1 ⊢;exact h1
theorem acc_digs{p:List UInt8}:∀(n:Nat) (d:List Nat) (i:Nat) (t:List UInt8),d.length≤n→(∀w ∈ d,w<900)→fromN d=some t→(p.drop i).take t.length=t→i+t.length≤p.length→∀v,Acc p (6,i+t.length,0,0) v→Acc p (5,i,0,0) (d++v):=by
 intro n
 induction n with
 | zero=>
  intro d i t h1 h2 h3 h4 h5 v hv
  have:d=[]:=List.length_eq_zero_iff.1 (by omega)
  subst this
  rw[fromN_nil]at h3
  injection h3 with h3
  subst h3
  exact acc_end hv (has5 p i) fun h=>⟨h,rfl⟩
 | succ n ih=>
  intro d i t h1 h2 h3 h4 h5 v hv
  by_cases hd:d=[]
  ·exact ih d i t (by subst hd;simp) h2 h3 h4 h5 v hv
  rw[fromN_pos hd]at h3
  split at h3
  ·rename_i hok
   cases hf:fromN (d.drop 15)with
   | none=>rw[hf]at h3;cases h3
   | some t'=>
    rw[hf]at h3
    simp only[Option.map_some,Option.some.injEq]at h3
    subst h3
    obtain⟨g1,g2,g3,g4,g5⟩:=grp_ok (fun w hw=>h2 w (List.mem_of_mem_take hw)) hok
    generalize hl:partS (d.take 15)=l at *
    simp only[List.length_append]at h4 h5 hv
    rw[←take_join]at h4
    have hsp:=List.append_inj h4 (by simp;omega)
    have hdg:l.length≤dgA p i:=dg_dgA (by rw[hsp.1];exact g1) g3 (by omega)
    have hgr:grpA p i l.length=d.take 15:=by unfold grpA;rw[hsp.1,g4]
    have hgl:=grpA_len hdg
    have hpath:∀v,Acc p (behS i l.length (l.length/3+1)) v→Acc p (5,i,0,0) (grpA p i l.length++v):=by
     intro v hv
     have hstep:∀n b,n+b=l.length/3+1→Acc p (behS i l.length b) ((grpA p i l.length).drop b++v):=by
      intro n
      induction n with
      | zero=>intro b hb;rw[show b=l.length/3+1 by omega,List.drop_eq_nil_of_le (by omega)];exact hv
      | succ n ih=>
       intro b hb
       have e:behS i l.length b=(5,i,l.length,b):=by unfold behS;rw[if_pos (by omega)]
       have hbl:b<(grpA p i l.length).length:=by omega
       rw[e,List.drop_eq_getElem_cons hbl]
       refine⟨_,?_,ih (b+1) (by omega)⟩
       simp only[movS,if_pos (show 0<l.length by omega)]
       refine List.mem_singleton.2 ?_
       rw[List.getD_eq_getElem?_getD,List.getElem?_eq_getElem hbl]
       rfl
     have h1:=hstep (l.length/3) 1 (by omega)
     cases hc:grpA p i l.length with
     | nil=>rw[hc]at hgl;simp at hgl
     | cons a m=>
      rw[hc]at h1
      refine⟨_,?_,h1⟩
      simp only[movS,Nat.lt_irrefl,if_false,List.mem_append,List.mem_map,List.mem_range]
      refine .inr ⟨l.length-1,by omega,?_⟩
      rw[show l.length-1+1=l.length by omega,hc]
      rfl
    have:=hpath (d.drop 15++v) ?_
    ·rw[hgr,←List.append_assoc,List.take_append_drop]at this
     exact this
    ·unfold behS
     rw[if_neg (by omega)]
     rw[←Nat.add_assoc]at hv
     split
     ·rename_i h44
      exact ih (d.drop 15) (i+l.length) t' (by have:=List.length_pos_iff.2 hd;simp;omega) (fun w hw=>h2 w (List.mem_of_mem_drop hw)) hf hsp.2 (by omega) v hv
     ·rename_i h44
      have hlast:d.length≤15:=by
       rcases g5 with g5|g5
       ·simpa using g5
       ·exact absurd g5 h44
      have he:d.drop 15=[]:=List.drop_eq_nil_of_le hlast
      rw[he,fromN_nil]at hf
      injection hf with hf
      subst hf
      rw[he]
      exact hv
  ·cases h3
theorem dataS_rest{r:List Nat}{y:Nat}(h:(r.drop (dataS r).length).head?=some y):900≤y:=by
 induction r with
 | nil=>simp at h
 | cons x r ih=>
  by_cases hx:x<900
  ·have e:dataS (x::r)=x::dataS r:=by unfold dataS;rw[List.takeWhile_cons,if_pos (by simpa using hx)]
   rw[e,List.length_cons,List.drop_succ_cons]at h
   exact ih h
  ·have e:dataS (x::r)=[]:=by unfold dataS;rw[List.takeWhile_cons,if_neg (by simpa using hx)]
   rw[e]at h
   simp at h
   omega
theorem data_split(r:List Nat):dataS r++r.drop (dataS r).length=r:=by
 conv=>lhs;lhs;rw[dataS_take r]
 exact List.take_append_drop _ _
theorem run_byt{k:Nat}{d:List Nat}{t:List UInt8}(hk:k≠902)(h:runS k d=(t,0)):(k=924→d.length%5=0)∧bytS (if k=901 then(d.length-1)/5 else d.length/5) d=some t:=by
 rw[runS,if_neg hk]at h
 split at h
 ·simp at h
 ·rename_i h0
  split at h
  ·rename_i t' ht
   injection h with h;subst h
   exact⟨fun e=>by apply Classical.byContradiction;intro hc;exact h0 ⟨e,hc⟩,ht⟩
  ·simp at h
theorem run_dig{d:List Nat}{t:List UInt8}(h:runS 902 d=(t,0)):fromN d=some t:=by
 rw[runS,if_pos rfl]at h
 split at h
 ·rename_i t' ht
  injection h with h;subst h
  exact ht
 ·simp at h
theorem dec_acc{p:List UInt8}:∀(n:Nat) (w:List Nat) (sub sh i:Nat),w.length<n→sub<4→sh<3→i≤p.length→decG n w sub sh (p.take i)=(p,0)→∃w',Acc p (0,i,3*sub+sh,0) w'∧(w'=w∨w'.length<w.length)∧(headC w→headC w')
 | 0,w,sub,sh,i,h,_,_,_,_=>by omega
 | n+1,[],sub,sh,i,_,_,_,hi,h=>by
  rw[decG]at h
  injection h with h
  have:=congrArg List.length h
  rw[List.length_take]at this
  exact⟨[],(show i=p.length by omega),.inl rfl,fun h=>h⟩
 | n+1,x::r,sub,sh,i,hn,h1,h2,hi,h=>by
  simp only[List.length_cons]at hn
  have IH:=@dec_acc p n
  rw[decG_cons]at h
  split at h
  ·rename_i h9
   split at h
   ·simp at h
   ·rename_i c a b hs
    split at h
    ·simp at h
    ·rename_i c2 a2 b2 hs2
     have k1:=stp_ok h1 h2 (show x/30<30 by omega) hs
     have k2:=stp_ok k1.2.2.1 k1.2.2.2 (Nat.mod_lt x (by decide)) hs2
     have hp:=decG_pre n _ _ _ _ _ h
     rw[List.append_assoc]at hp h
     obtain⟨q1,q2⟩:=part_of hi hp
     have hp1:=part_of hi (pre_app (by rw[List.append_assoc];exact hp))
     rw[List.length_append]at q1 q2
     rw[←take_join,hp1.1]at q1
     have q3:=List.append_cancel_left q1
     have t1:=tk_of (p:=p) (s:=(sub,sh)) (i:=i) hs h1 h2 (by omega) hp1.1 hp1.2
     have t2:=tk_of (p:=p) (s:=(a,b)) (i:=i+(chS c).length) hs2 k1.2.2.1 k1.2.2.2 (Nat.mod_lt x (by decide)) q3 (by omega)
     have harc:=of_arc (p:=p) (i:=i) (a:=3*sub+sh) (u:=x/30) (v:=x%30) (by omega) (Nat.mod_lt x (by decide)) (by rw[show(3*sub+sh)/3=sub by omega,show(3*sub+sh)%3=sh by omega];exact t1) t2
     have e:p.take i++(chS c++chS c2)=p.take (i+((chS c).length+(chS c2).length)):=by
      rw[←take_next,←take_join,hp1.1,q3]
     rw[e]at h
     obtain⟨w',g1,g2,g3⟩:=IH r a2 b2 _ (by omega) k2.2.2.1 k2.2.2.2 (by omega) h
     refine⟨x::w',⟨_,?_,g1⟩,?_,?_⟩
     ·simp only[movS,List.mem_append,List.mem_map]
      refine .inl ⟨_,harc,?_⟩
      simp only[Prod.mk.injEq,and_true,true_and]
      omega
     ·rcases g2 with rfl|g2
      ·exact .inl rfl
      ·exact .inr (by simp only[List.length_cons];omega)
     ·intro hh
      have:=(hh x rfl).1
      omega
  ·rename_i h9
   split at h
   ·rename_i h900
    subst h900
    obtain⟨w',g1,g2,g3⟩:=IH r 0 0 i (by omega) (by omega) (by omega) hi h
    refine⟨900::w',⟨_,has0 p i _ 0 _ (List.mem_cons_self ..),g1⟩,?_,fun hh=>fun y hy=>by cases hy;omega⟩
    rcases g2 with rfl|g2
    ·exact .inl rfl
    ·exact .inr (by simp only[List.length_cons];omega)
   ·split at h
    ·rename_i h913
     subst h913
     split at h
     ·simp at h
     ·rename_i z r2
      split at h
      ·simp at h
      ·rename_i hz
       have hp:=decG_pre n _ _ _ _ _ h
       obtain⟨q1,q2⟩:=part_of hi hp
       simp only[List.length_singleton]at q1 q2
       have e:p.take i++[UInt8.ofNat z]=p.take (i+1):=by rw[←take_next,q1]
       rw[take_one (by omega)]at q1
       injection q1 with q1
       rw[e]at h
       simp only[List.length_cons]at hn
       obtain⟨w',g1,g2,g3⟩:=IH r2 sub 0 _ (by omega) h1 (by omega) (by omega) h
       have eb:byA p i=z:=by rw[byA,q1,UInt8.toNat_ofNat',Nat.mod_eq_of_lt (by omega)]
       refine⟨913::z::w',⟨(1,i,3*sub,0),?_,(0,i+1,3*sub,0),?_,g1⟩,?_,fun hh=>absurd rfl (hh 913 rfl).2⟩
       ·simp only[movS,List.mem_append]
        refine .inr (.inl ?_)
        rw[if_pos (by omega),show(3*sub+sh)/3*3=3*sub by omega]
        exact List.mem_singleton.2 rfl
       ·simp only[movS,eb]
        exact List.mem_singleton.2 rfl
       ·rcases g2 with rfl|g2
        ·exact .inl rfl
        ·exact .inr (by simp only[List.length_cons];omega)
    ·split at h
     ·rename_i hrun
      rcases hr:runS x (dataS r)with ⟨t,e0⟩
      rw[hr]at h
      cases e0 with
      | succ k=>simp at h
      | zero=>
       simp only at h
       split at h
       ·simp at h
       ·rename_i hh
        have hp:=decG_pre n _ _ _ _ _ h
        obtain⟨q1,q2⟩:=part_of hi hp
        have e:p.take i++t=p.take (i+t.length):=by rw[←take_next,q1]
        rw[e]at h
        have hsp:=data_split r
        have hdl:=congrArg List.length hsp
        rw[List.length_append]at hdl
        have hlt:=@dataS_lt r
        have hhc:headC (r.drop (dataS r).length):=fun y hy=>⟨dataS_rest hy,fun e=>hh (e▸hy)⟩
        obtain⟨v,g1,g2,g3⟩:=IH _ 0 0 _ (by omega) (by omega) (by omega) q2 h
        have hv:=g3 hhc
        have hE:=acc_cmd q2 (by omega) g1 hv
        generalize r.drop (dataS r).length=rest at *
        generalize hD:dataS r=d at *
        have fin:∀k,(x,k,i,0,0) ∈ cmdS i→Acc p (k,i,0,0) (d++v)→∃w',Acc p (0,i,3*sub+sh,0) w'∧(w'=x::r∨w'.length<(x::r).length)∧(headC (x::r)→headC w'):=by
         intro k hk ha
         refine⟨x::(d++v),⟨_,has0 p i _ 0 _ hk,ha⟩,?_,fun hh=>fun y hy=>by cases hy;exact hh x rfl⟩
         rcases g2 with rfl|g2
         ·exact .inl (by rw[hsp])
         ·exact .inr (by simp only[List.length_cons,List.length_append];omega)
        rcases hrun with rfl|rfl|rfl
        ·obtain⟨-,hb⟩:=run_byt (by decide) hr
         rw[if_pos rfl]at hb
         by_cases hd0:d=[]
         ·subst hd0
          have:t=[]:=by simp[bytS]at hb;exact hb
          subst this
          refine⟨v,acc_end hE (has0 p i _ 0) (fun e=>e),.inr ?_,fun _=>hv⟩
          simp only[List.length_cons,List.length_nil]at hdl ⊢
          rcases g2 with rfl|g2<;>omega
         ·have hd1:=List.length_pos_iff.2 hd0
          obtain⟨t2,e1,e2,e3,e4⟩:=acc_sixes (.inr rfl) _ i d t (by omega) hlt hb q1 q2
          obtain⟨b1,b2⟩:=byt0 e2
          have ht2:t2.length=d.length-5*((d.length-1)/5):=by rw[b2];simp
          have hdd:(d.drop (5*((d.length-1)/5))).length=t2.length:=by rw[ht2,List.length_drop]
          refine fin 3 (by simp[cmdS]) (e4 v (acc_nine (by omega) (by omega) b1 (by rw[hdd,e3,b2]) (by omega) (by rw[hdd,show i+6*((d.length-1)/5)+t2.length=i+t.length by omega];exact hE)))
        ·exact fin 5 (by simp[cmdS]) (acc_digs d.length d i t (Nat.le_refl _) hlt (run_dig hr) q1 q2 v hE)
        ·obtain⟨hm,hb⟩:=run_byt (by decide) hr
         have hm:=hm rfl
         rw[if_neg (by decide)]at hb
         obtain⟨t2,e1,e2,e3,e4⟩:=acc_sixes (.inl rfl) _ i d t (by omega) hlt hb q1 q2
         have hnil:d.drop (5*(d.length/5))=[]:=List.drop_eq_nil_of_le (by omega)
         rw[hnil]at e2 e4
         obtain⟨b1,b2⟩:=byt0 e2
         subst b2
         simp only[List.map_nil,List.length_nil,Nat.add_zero]at e1
         rw[e1]at hE
         exact fin 2 (by simp[cmdS]) (e4 v (acc_end hE (has2 p _) fun e=>⟨e,rfl⟩))
     ·simp at h
end Go.Proofs.YtgpolmomghejoaaDoor
