/- Lemmas. -/
import Derived.Test.YtgpolmomghejoaaDoorE19
set_option linter.unusedVariables false
set_option linter.unusedSimpArgs false
set_option linter.unusedSectionVars false
namespace Go.Proofs.YtgpolmomghejoaaDoor
open Go.Abs
def g5(N:Nat):List Nat:=[N/900^4%900,N/900^3%900,N/900^2%900,N/900^1%900,N/900^0%900]
theorem EX{l:List UInt8}(h:l.length=6):∃a b c d e f,l=[a,b,c,d,e,f]:=by
 match l,h with
 | [a,b,c,d,e,f],_=>exact⟨a,b,c,d,e,f,rfl⟩
theorem Au{l:List UInt8}(h:l.length=6):by6 (aY 256 (l.map UInt8.toNat))=l∧aY 256 (l.map UInt8.toNat)<281474976710656:=by
 obtain⟨a,b,c,d,e,f,rfl⟩:=EX h;have ha:=a.toNat_lt;have hb:=b.toNat_lt;have hc:=c.toNat_lt;have hd:=d.toNat_lt;have he:=e.toNat_lt;have hf:=f.toNat_lt;have key:∀(x:UInt8) (n:Nat),n%256=x.toNat→UInt8.ofNat n=x:=fun x n hx=>UInt8.toNat_inj.1 (by rw[UInt8.toNat_ofNat'];exact hx);simp only[by6,aY,List.map_cons,List.map_nil,List.foldl_cons,List.foldl_nil,List.cons.injEq,and_true];refine⟨⟨?_,?_,?_,?_,?_,?_⟩,?_⟩
 ·exact key _ _ (by omega)
 ·exact key _ _ (by omega)
 ·exact key _ _ (by omega)
 ·exact key _ _ (by omega)
 ·exact key _ _ (by omega)
 ·exact key _ _ (by omega)
 ·omega
theorem Fq{p:List UInt8}{i:Nat}(h:i+6≤p.length):by6 (v6 p i)=(p.drop i).take 6∧v6 p i<281474976710656:=Au (by simp;omega)
theorem rJ{l:List UInt8}(h:∀b ∈ l,bg b=true)(hl:l.length≤44):(dw l).length=l.length/3+1:=by
 have h1:=mB h;have hk:((List.range 45).all fun a=>decide (2*10^a≤900^(a/3+1))&&decide (900^(a/3)≤10^a))=true:=by decide
 have h2:=List.all_eq_true.1 hk l.length (List.mem_range.2 (by omega));simp only[Bool.and_eq_true,decide_eq_true_eq]at h2;have h3:(dw l).length≤l.length/3+1:=by
  unfold dw j7;rw[List.length_reverse];exact cz (by decide) _ _ (Nat.lt_of_lt_of_le h1.1 h2.1)
 have h4:=fY (B:=900) (qZ (aY 10 (1::dgt l))) (dw l).length (Nat.le_refl _);unfold dw at h4;rw[List.take_length,mV]at h4;by_cases h5:(dw l).length≤l.length/3
 ·have:(900:Nat)^(dw l).length≤900^(l.length/3):=Nat.pow_le_pow_right (by decide) h5
  unfold dw at this;omega
 ·omega
theorem ql{p:List UInt8}{i k:Nat}(h:k≤dgA p i):(∀b ∈ (p.drop i).take k,bg b=true)∧((p.drop i).take k).length=k∧k≤44:=by
 have hl:=iM p i;have h44:k≤44:=by omega
 have e:(p.drop i).take k=(((p.drop i).take 44).takeWhile bg).take k:=by
  have hp:((p.drop i).take 44).takeWhile bg <+: (p.drop i).take 44:=List.takeWhile_prefix _;obtain⟨r,hr⟩:=hp;have:((p.drop i).take 44).take k=(p.drop i).take k:=by rw[List.take_take,Nat.min_eq_left h44]
  rw[←this,←hr,List.take_append_of_le_length (by unfold dgA at h;omega),hr]
 refine⟨fun b hb=>?_,by simp;omega,h44⟩;rw[e]at hb;have hb:=List.mem_of_mem_take hb;exact(List.all_eq_true.1 (List.all_takeWhile (p:=bg) (l:=(p.drop i).take 44))) b hb
theorem eg{p:List UInt8}{i k:Nat}(h:k≤dgA p i):(dF p i k).length=k/3+1:=by
 obtain⟨h1,h2,h3⟩:=ql h;unfold dF;rw[rJ h1 (by omega),h2]
theorem za{p:List UInt8}{i k:Nat}(h:∀b ∈ (p.drop i).take k,bg b=true)(hk:k≤44)(hi:i+k≤p.length):k≤dgA p i:=by
 have hp:(p.drop i).take k=((p.drop i).take 44).take k:=by rw[List.take_take,Nat.min_eq_left hk]
 have:((p.drop i).take 44)=(p.drop i).take k++((p.drop i).take 44).drop k:=by rw[hp,List.take_append_drop]
 unfold dgA;rw[this,List.takeWhile_append_of_pos h,List.length_append,List.length_take,List.length_drop];omega
theorem ow{l:List UInt8}(h:∀b ∈ l,bg b=true)(hl:1≤l.length)(h44:l.length≤44)(b:Bool)(hb:b=true∨l.length=44):kA b (dw l)=true∧nH (dw l)=l:=by
 have h1:aY 900 (dw l)=aY 10 (1::dgt l):=mV _;have h2:=u0 h;have h3:(dgt l).length=l.length:=by simp[dgt]
 refine⟨jV.2 ?_,?_⟩
 ·rw[h1,h2]
  refine⟨?_,rfl,by simp;omega,by simp;omega,by rcases hb with hb|hb;exact .inl hb;exact .inr (by simp;omega)⟩;have:=vl (aY 10 (1::dgt l));unfold dw;cases e:j7 (aY 10 (1::dgt l))with
  | nil=>
   have h4:=mV (aY 10 (1::dgt l));rw[e]at h4;have:=(mB h).2;have:=Nat.pow_pos (n:=l.length) (show 0<10 by decide);simp[aY]at h4;simp[aY]at *;omega
  | cons a m=>
   rw[e]at this;intro h0;simp at h0;exact this (by simp[h0])
 ·unfold nH
  rw[h1,h2,List.drop_one,List.tail_cons,zl h]
theorem wa{l:List UInt8}{r:List Nat}(h:∀b ∈ l,bg b=true)(hl:1≤l.length)(h44:l.length≤44)(hr:r=[]∨l.length=44):e9 (dw l++r)=(e9 r).map (l++·):=by
 have hg:=rJ h h44;have hg15:(dw l).length≤15:=by omega
 have hne:dw l++r≠[]:=fun e=>by rw[List.append_eq_nil_iff]at e;rw[e.1]at hg;simp at hg
 rw[m6 hne];by_cases hr0:r=[]
 ·subst hr0
  rw[List.append_nil,List.take_of_length_le hg15,List.drop_eq_nil_of_le hg15];obtain⟨h1,h2⟩:=ow h hl h44 (decide ((dw l).length≤15)) (.inl (by simpa using hg15));rw[if_pos h1,h2]
 ·have h44:l.length=44:=hr.resolve_left hr0
  have hg15:(dw l).length=15:=by omega
  rw[List.take_append_of_le_length (by omega),List.drop_append_of_le_length (by omega),List.take_of_length_le (by omega),List.drop_eq_nil_of_le (by omega)];obtain⟨h1,h2⟩:=ow h hl (by omega) (decide ((dw l++r).length≤15)) (.inr h44);rw[if_pos h1,h2,List.nil_append]
def sV(p:List UInt8)(i:Nat)(w:List Nat):Prop:=(∀x,w.head?=some x→900≤x∧x≠913)∧∀n,w.length<n→fo n w 0 0 (p.take i)=(p,0)
structure Cl (p:List UInt8)(w:List Nat):Prop where
 A:∀i a,i≤p.length→a<12→Acc p (0,i,a,0) w→∀n,w.length<n→fo n w (a/3) (a%3) (p.take i)=(p,0)
 C:∀i,i≤p.length→(Acc p (6,i,0,0) w)→sV p i w∧∀n,w.length<n→∀s h,fo n w s h (p.take i)=(p,0)
 T:∀i a,i≤p.length→1≤a→a≤5→Acc p (4,i,a,0) w→∃j,j+a≤5∧i+j≤p.length∧bD w=((p.drop i).take j).map UInt8.toNat∧sV p (i+j) (w.drop (bD w).length)
 N:∀i,i≤p.length→Acc p (3,i,0,0) w→∃g r,1≤r∧r≤5∧i+(6*g+r)≤p.length∧(bD w).length=5*g+r∧iN g (bD w)=some ((p.drop i).take (6*g+r))∧sV p (i+(6*g+r)) (w.drop (bD w).length)
 S:∀i,i≤p.length→Acc p (2,i,0,0) w→∃g,i+6*g≤p.length∧(bD w).length=5*g∧iN g (bD w)=some ((p.drop i).take (6*g))∧sV p (i+6*g) (w.drop (bD w).length)
 D:∀i,i≤p.length→Acc p (5,i,0,0) w→∃j,i+j≤p.length∧e9 (bD w)=some ((p.drop i).take j)∧sV p (i+j) (w.drop (bD w).length)
theorem take_one{p:List UInt8}{i:Nat}(h:i<p.length):(p.drop i).take 1=[p.getD i 0]:=by
 rw[List.take_one,List.head?_drop,List.getD_eq_getElem?_getD,List.getElem?_eq_getElem h];rfl
theorem ui{p:List UInt8}{t t':Thr}{x:Nat}(hv:VT p t)(h:(x,t') ∈ bK p t):x≤928:=by
 obtain⟨k,i,a,b⟩:=t;have hb:∀i,byA p i≤928:=fun i=>by have:=(p.getD i 0).toNat_lt;unfold byA;omega
 have hc:∀{x t'},(x,t') ∈ dE i→x≤928:=fun h=>by
  simp only[dE,List.mem_cons,List.not_mem_nil,or_false,Prod.mk.injEq]at h;omega
 have hm:∀N,N%900≤928:=fun N=>by have:=Nat.mod_lt N (show 0<900 by decide);omega
 have hg:∀a b,(dF p i a).getD b 0≤928:=fun a b=>by
  by_cases h:b<(dF p i a).length
  ·rw[List.getD_eq_getElem?_getD,List.getElem?_eq_getElem h]
   have:=qZ _ _ (List.getElem_mem h);simp only[Option.getD_some];omega
  ·rw[List.getD_eq_getElem?_getD,List.getElem?_eq_none (by omega)]
   simp
 match k,hv with
 | 0,hv=>
  simp only[bK,List.mem_append,List.mem_map]at h;rcases h with ⟨y,hy,e⟩|h|h
  ·injection e with e1 e2
   obtain⟨u,v,c,d,k,m,s,h1,hu,hv2,-⟩:=lS hy hv.2.1 hv.1;omega
  ·split at h
   ·simp only[List.mem_cons,List.not_mem_nil,or_false,Prod.mk.injEq]at h
    omega
   ·simp at h
  ·exact hc h
 | 1,hv=>
  simp only[bK,List.mem_cons,List.not_mem_nil,or_false,Prod.mk.injEq]at h;rw[h.1];exact hb i
 | 2,hv=>
  simp only[bK,List.mem_append]at h;rcases h with h|h|h
  ·split at h
   ·exact hc h
   ·simp at h
  ·simp at h
  ·split at h
   ·simp only[List.mem_cons,List.not_mem_nil,or_false,Prod.mk.injEq]at h
    rw[h.1];exact hm _
   ·simp at h
 | 3,hv=>
  simp only[bK,List.mem_append]at h;rcases h with h|h|h
  ·split at h
   ·exact hc h
   ·simp at h
  ·split at h
   ·simp only[List.mem_cons,List.not_mem_nil,or_false,Prod.mk.injEq]at h
    rw[h.1];exact hb i
   ·simp at h
  ·split at h
   ·simp only[List.mem_cons,List.not_mem_nil,or_false,Prod.mk.injEq]at h
    rw[h.1];exact hm _
   ·simp at h
 | 4,hv=>
  simp only[bK,List.mem_append]at h;rcases h with h|h
  ·split at h
   ·simp only[List.mem_cons,List.not_mem_nil,or_false,Prod.mk.injEq]at h
    rw[h.1];exact hb i
   ·simp at h
  ·exact hc h
 | 5,hv=>
  simp only[bK]at h;split at h
  ·simp only[List.mem_cons,List.not_mem_nil,or_false,Prod.mk.injEq]at h
   rw[h.1];exact hg _ _
  ·simp only[List.mem_append,List.mem_map,List.mem_range]at h
   rcases h with h|⟨k,hk,e⟩
   ·exact hc h
   ·injection e with e1 e2
    rw[←e1];exact hg _ _
 | 6,hv=>exact hc h
end Go.Proofs.YtgpolmomghejoaaDoor
