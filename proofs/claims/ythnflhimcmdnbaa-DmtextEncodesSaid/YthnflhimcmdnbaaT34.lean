/- Dmtext, the reference: rounds over the nodes of a place; the costs that they reach. Dmtext, the reference: costs. Dmtext, the reference: choice. -/
import Derived.Test.YthnflhimcmdnbaaT33
set_option linter.unusedVariables false
set_option linter.unusedSimpArgs false
set_option linter.unusedSectionVars false
namespace Go.Proofs.Ythnflhimcmdnbaa
open Go.Abs
set_option linter.unusedSimpArgs false
set_option linter.unusedVariables false
set_option maxRecDepth 20000
def idxR(n:RN):Nat:=n.i*128+numR n
theorem idx_lt{N:Nat}{n:RN}(h:n.ok N):idxR n<(N+1)*128:=by
 have:=numR_lt h
 have:=h.i
 unfold idxR;omega
theorem numR_inj{N:Nat}{n n':RN}(h:n.ok N)(h':n'.ok N)(hi:n.i=n'.i)(e:numR n=numR n'):n=n':=by
 obtain⟨h1,h2,⟨h3,h4,h5⟩,h6,h7⟩:=h
 obtain⟨g1,g2,⟨g3,g4,g5⟩,g6,g7⟩:=h'
 obtain⟨i,m,ph,s,u⟩:=n
 obtain⟨i',m',ph',s',u'⟩:=n'
 simp only at *
 subst hi
 unfold numR at e
 simp only at e
 have hm:m=m'∧ph=ph'∧s=s'∧u=u':=by
  by_cases a:m=3∨m=4
  ·rw[if_pos a]at e
   obtain⟨rfl,rfl⟩:=h7 (by omega)
   by_cases a':m'=3∨m'=4
   ·rw[if_pos a']at e
    obtain⟨rfl,rfl⟩:=g7 (by omega)
    exact⟨by omega,by omega,rfl,rfl⟩
   ·rw[if_neg a']at e
    exfalso;split at e<;>omega
  ·rw[if_neg a]at e
   by_cases a':m'=3∨m'=4
   ·rw[if_pos a']at e
    exfalso;split at e<;>omega
   ·rw[if_neg a']at e
    have k1:=h4 (by omega)
    have k2:=g4 (by omega)
    cases u<;>cases u'<;>simp only[Bool.false_eq_true,if_true,if_false]at e ⊢<;>refine⟨?_,?_,?_,?_⟩<;>first|trivial|omega|(exfalso;omega)
 obtain⟨rfl,rfl,rfl,rfl⟩:=hm
 rfl
theorem idx_inj{N:Nat}{n n':RN}(h:n.ok N)(h':n'.ok N)(e:idxR n=idxR n'):n=n':=by
 have:=numR_lt h
 have:=numR_lt h'
 unfold idxR at e
 have hi:n.i=n'.i:=by omega
 exact numR_inj h h' hi (by rw[hi]at e;omega)
theorem nodesR_ok{N i:Nat}(hi:i≤N):∀n ∈ nodesR i,n.ok N∧n.i=i:=by
 intro n hn
 unfold nodesR at hn
 simp only[List.mem_append]at hn
 rcases hn with (hn|hn)|hn
 ·obtain rfl:=List.mem_singleton.1 hn
  exact⟨asR_ok hi,rfl⟩
 ·simp only[ndM,ndP,ndS,nd2,List.mem_flatMap,List.mem_range,List.mem_cons,List.not_mem_nil,or_false]at hn
  obtain⟨m,hm,ph,hph,s,hs,rfl|rfl⟩:=hn
  ·exact⟨⟨hi,by simp only;omega,⟨by simp only;omega,fun _=>by simp only;omega,fun e=>by simp only at e;omega⟩,by simp only;omega,fun e=>by simp only at e;omega⟩,rfl⟩
  ·exact⟨⟨hi,by simp only;omega,⟨by simp only;omega,fun _=>by simp only;omega,fun e=>by simp only at e;omega⟩,by simp only;omega,fun e=>by simp only at e;omega⟩,rfl⟩
 ·simp only[ndE,List.mem_flatMap,List.mem_range,List.mem_append]at hn
  obtain⟨ph,hph,hn|hn⟩:=hn
  ·split at hn
   ·obtain rfl:=List.mem_singleton.1 hn
    exact⟨⟨hi,by simp,⟨by simp only;omega,fun _=>by simp only;omega,fun e=>by simp only at e;omega⟩,by simp,fun _=>⟨rfl,rfl⟩⟩,rfl⟩
   ·cases hn
  ·obtain rfl:=List.mem_singleton.1 hn
   exact⟨⟨hi,by simp,⟨by simp only;omega,fun e=>absurd rfl e,fun e=>by simp only at e;omega⟩,by simp,fun _=>⟨rfl,rfl⟩⟩,rfl⟩
theorem nodesR_mem{N:Nat}{n:RN}(h:n.ok N):n ∈ nodesR n.i:=by
 obtain⟨h1,h2,⟨h3,h4,h5⟩,h6,h7⟩:=h
 obtain⟨i,m,ph,s,u⟩:=n
 simp only at *
 unfold nodesR
 simp only[List.mem_append]
 by_cases e0:m=0
 ·subst e0
  obtain⟨rfl,rfl⟩:=h7 (.inl rfl)
  have:=h5 rfl
  subst this
  exact .inl (.inl (by simp[asR]))
 ·by_cases e3:3≤m
  ·obtain⟨rfl,rfl⟩:=h7 (.inr e3)
   refine .inr ?_
   simp only[ndE,List.mem_flatMap,List.mem_range,List.mem_append]
   refine⟨ph,by omega,?_⟩
   by_cases e:m=3
   ·subst e
    exact .inl (by rw[if_pos (by have:=h4 (by omega);omega)];simp)
   ·have:m=4:=by omega
    subst this
    exact .inr (by simp)
  ·refine .inl (.inr ?_)
   simp only[ndM,ndP,ndS,nd2,List.mem_flatMap,List.mem_range,List.mem_cons,List.not_mem_nil,or_false]
   refine⟨m-1,by omega,ph,by have:=h4 (by omega);omega,s,by omega,?_⟩
   have hm:m-1+1=m:=by omega
   rw[hm]
   cases u
   ·exact .inl rfl
   ·exact .inr rfl
theorem unitL_ge{p:List UInt8}{n:RN}:∀k,∀x ∈ unitL p n k,n.i≤x.to.i
 | 0,x,hx=>by
  unfold unitL at hx
  split at hx
  ·obtain rfl:=List.mem_singleton.1 hx
   exact Nat.le_refl _
  ·cases hx
 | k+1,x,hx=>by
  unfold unitL at hx
  rcases List.mem_append.1 hx with hx|hx
  ·exact unitL_ge k x hx
  ·cases hu:unitR p n k with
   | none=>rw[hu]at hx;cases hx
   | some t=>
    rw[hu]at hx
    obtain rfl:=List.mem_singleton.1 hx
    unfold unitR at hu
    repeat' split at hu
    all_goals cases hu
    all_goals first|exact Nat.le_refl _|exact Nat.le_succ _
theorem stepsR_ge{p:List UInt8}{n:RN}:∀x ∈ stepsR p n,n.i≤x.to.i:=by
 intro x hx
 unfold stepsR at hx
 split at hx
 ·unfold startsR at hx
  simp only[List.mem_append]at hx
  rcases hx with (((hx|hx)|hx)|hx)|hx
  ·unfold pairR at hx
   split at hx
   ·obtain rfl:=List.mem_singleton.1 hx
    simp[asR]
   ·cases hx
  ·unfold lowR at hx
   split at hx
   ·obtain rfl:=List.mem_singleton.1 hx
    simp[asR]
   ·cases hx
  ·unfold highR at hx
   split at hx
   ·obtain rfl:=List.mem_singleton.1 hx
    simp[asR]
   ·cases hx
  ·unfold latR at hx
   obtain⟨j,hj,rfl⟩:=List.mem_map.1 hx
   exact Nat.le_refl _
  ·unfold runsR at hx
   obtain⟨j,hj,rfl⟩:=List.mem_map.1 hx
   unfold runR
   split<;>simp[asR]
 ·split at hx
  ·exact unitL_ge 40 x hx
  ·unfold edisR at hx
   rcases List.mem_append.1 hx with hx|hx
   ·obtain rfl:=List.mem_singleton.1 hx
    exact Nat.le_refl _
   ·split at hx
    ·obtain rfl:=List.mem_singleton.1 hx
     exact Nat.le_succ _
    ·cases hx
theorem minR_fold{C:List Nat}:∀(L:List RS) (b:Nat),L.foldl (minR C) b≤b∧(∀x ∈ L,L.foldl (minR C) b≤totR C x)∧(L.foldl (minR C) b=b∨∃x ∈ L,L.foldl (minR C) b=totR C x)
 | [],b=>⟨Nat.le_refl _,by simp,.inl rfl⟩
 | y::L,b=>by
  obtain⟨h1,h2,h3⟩:=minR_fold (C:=C) L (minR C b y)
  have hm:minR C b y≤b∧minR C b y≤totR C y∧(minR C b y=b∨minR C b y=totR C y):=by
   unfold minR;split
   ·exact⟨by omega,Nat.le_refl _,.inr rfl⟩
   ·exact⟨Nat.le_refl _,by omega,.inl rfl⟩
  refine⟨by simp only[List.foldl_cons];omega,fun x hx=>?_,?_⟩
  ·rcases List.mem_cons.1 hx with rfl|hx
   ·simp only[List.foldl_cons];omega
   ·exact h2 x hx
  ·rcases h3 with h3|⟨x,hx,h3⟩
   ·rcases hm.2.2 with h|h
    ·exact .inl (h3.trans h)
    ·exact .inr ⟨y,by simp,h3.trans h⟩
   ·exact .inr ⟨x,List.mem_cons_of_mem _ hx,h3⟩
theorem best_le{p:List UInt8}{n:RN}{C:List Nat}:bestR p n C≤base0 p n:=(minR_fold _ _).1
theorem best_step{p:List UInt8}{n:RN}{C:List Nat}{x:RS}(h:x ∈ stepsR p n):bestR p n C≤totR C x:=(minR_fold _ _).2.1 x h
theorem best_ex{p:List UInt8}{n:RN}{C:List Nat}:bestR p n C=base0 p n∨∃x ∈ stepsR p n,bestR p n C=totR C x:=(minR_fold _ _).2.2
theorem base0_le(p:List UInt8)(n:RN):base0 p n≤1099511627776:=by unfold base0;split<;>omega
theorem totR_mono{C C':List Nat}(h:∀j,C'.getD j 0≤C.getD j 0)(x:RS):totR C' x≤totR C x:=by
 unfold totR;have:=h (x.to.i*128+numR x.to);omega
theorem best_mono{p:List UInt8}{n:RN}{C C':List Nat}(h:∀j,C'.getD j 0≤C.getD j 0):bestR p n C'≤bestR p n C:=by
 rcases best_ex (p:=p) (n:=n) (C:=C)with e|⟨x,hx,e⟩
 ·rw[e];exact best_le
 ·rw[e];exact Nat.le_trans (best_step hx) (totR_mono h x)
theorem best_agr{p:List UInt8}{n:RN}{C C':List Nat}(h:∀j,n.i*128≤j→C'.getD j 0=C.getD j 0):bestR p n C'=bestR p n C:=by
 unfold bestR
 have key:∀L:List RS,(∀x ∈ L,n.i≤x.to.i)→∀b,L.foldl (minR C') b=L.foldl (minR C) b:=by
  intro L
  induction L with
  | nil=>intro _ b;rfl
  | cons x L ih=>
   intro hL b
   have e:totR C' x=totR C x:=by
    unfold totR
    rw[h _ (by have:=Nat.mul_le_mul_right 128 (hL x (by simp));omega)]
   have e2:minR C' b x=minR C b x:=by unfold minR;rw[e]
   rw[List.foldl_cons,List.foldl_cons,e2]
   exact ih (fun y hy=>hL y (List.mem_cons_of_mem _ hy)) _
 exact key _ stepsR_ge _
def relB(p:List UInt8)(s:List Nat×Bool)(n:RN):List Nat×Bool:=if bestR p n s.1<s.1.getD (idxR n) 0 then(s.1.set (idxR n) (bestR p n s.1),true) else s
def passB(p:List UInt8)(L:List RN)(s:List Nat×Bool):List Nat×Bool:=L.foldl (relB p) s
inductive StlB (p:List UInt8) (i:Nat):List Nat→List Nat→Prop
 | done {c c':List Nat}:passB p (nodesR i) (c,false)=(c',false)→StlB p i c c'
 | more {c d c':List Nat}:passB p (nodesR i) (c,false)=(d,true)→StlB p i d c'→StlB p i c c'
def rowB(i:Nat)(c:List Nat):Nat→List Nat
 | 0=>c
 | k+1=>(rowB i c k).set (i*128+k) 1099511627776
inductive NewB (p:List UInt8):Nat→List Nat→Prop
 | start:NewB p (p.length+1) (List.replicate ((p.length+1)*128) 0)
 | step {i:Nat} {c c':List Nat}:NewB p (i+1) c→StlB p i (rowB i c 128) c'→NewB p i c'
structure Stp2 (i:Nat)(s t:List Nat×Bool):Prop where
 len:t.1.length=s.1.length
 le:∀j,t.1.getD j 0≤s.1.getD j 0
 ne:∀j,(j<i*128∨(i+1)*128≤j)→t.1.getD j 0=s.1.getD j 0
 sum:t.1.sum≤s.1.sum
 fl:t.2=true→s.2=true∨t.1.sum<s.1.sum
theorem Stp2.refl(i:Nat)(s:List Nat×Bool):Stp2 i s s:=⟨rfl,fun _=>Nat.le_refl _,fun _ _=>rfl,Nat.le_refl _,fun h=>.inl h⟩
theorem Stp2.trans{i:Nat}{s t u:List Nat×Bool}(h:Stp2 i s t)(g:Stp2 i t u):Stp2 i s u:=by
 refine⟨g.len.trans h.len,fun j=>Nat.le_trans (g.le j) (h.le j),fun j hj=>(g.ne j hj).trans (h.ne j hj),Nat.le_trans g.sum h.sum,fun e=>?_⟩
 rcases g.fl e with e|e
 ·rcases h.fl e with e|e
  ·exact .inl e
  ·exact .inr (Nat.lt_of_le_of_lt g.sum e)
 ·exact .inr (Nat.lt_of_lt_of_le e h.sum)
theorem relB_stp{p:List UInt8}{i N:Nat}{s:List Nat×Bool}{n:RN}(hn:n.ok N)(hi:n.i=i):Stp2 i s (relB p s n):=by
 have h128:=numR_lt hn
 unfold relB
 split
 ·rename_i h
  have hl:idxR n<s.1.length:=by
   refine Decidable.byContradiction fun hc=>?_
   rw[getD_ge (by omega)]at h;omega
  have hs:=sum_set (x:=bestR p n s.1) hl
  refine⟨by simp,fun j=>?_,fun j hj=>?_,by simp only;omega,fun _=>.inr (by simp only;omega)⟩
  ·simp only[getD_set hl];split
   ·rename_i e;subst e;omega
   ·exact Nat.le_refl _
  ·simp only[getD_set hl]
   rw[if_neg (by unfold idxR;rw[hi];omega)]
 ·exact Stp2.refl i s
theorem passB_stp{p:List UInt8}{i N:Nat}:∀{L:List RN} {s:List Nat×Bool},(∀n ∈ L,n.ok N∧n.i=i)→Stp2 i s (passB p L s)
 | [],s,_=>Stp2.refl i s
 | n::L,s,h=>Stp2.trans (relB_stp (h n (by simp)).1 (h n (by simp)).2) (passB_stp (L:=L) (s:=relB p s n) fun m hm=>h m (List.mem_cons_of_mem _ hm))
def UpB(p:List UInt8)(N i:Nat)(c:List Nat):Prop:=c.length=(N+1)*128∧∀n:RN,n.ok N→n.i=i→bestR p n c≤c.getD (idxR n) 0
theorem relB_up{p:List UInt8}{i N:Nat}{s:List Nat×Bool}{n:RN}(h:UpB p N i s.1)(hn:n.ok N)(hi:n.i=i):UpB p N i (relB p s n).1:=by
 have hst:=relB_stp (p:=p) (s:=s) hn hi
 refine⟨hst.len.trans h.1,fun n' hn' hi'=>?_⟩
 have hm:=best_mono (p:=p) (n:=n') hst.le
 have h0:=h.2 n' hn' hi'
 unfold relB at hm ⊢
 split
 ·rename_i hlt
  rw[if_pos hlt]at hm
  have hl:idxR n<s.1.length:=by rw[h.1];exact idx_lt hn
  simp only[getD_set hl]
  split
  ·rename_i e
   obtain rfl:=idx_inj hn' hn e
   exact hm
  ·exact Nat.le_trans hm h0
 ·exact h0
theorem passB_up{p:List UInt8}{i N:Nat}:∀{L:List RN} {s:List Nat×Bool},(∀n ∈ L,n.ok N∧n.i=i)→UpB p N i s.1→UpB p N i (passB p L s).1
 | [],s,_,h=>h
 | n::L,s,hL,h=>passB_up (L:=L) (s:=relB p s n) (fun m hm=>hL m (List.mem_cons_of_mem _ hm)) (relB_up h (hL n (by simp)).1 (hL n (by simp)).2)
theorem relB_same{p:List UInt8}{s:List Nat×Bool}{n:RN}(h:(relB p s n).2=false):relB p s n=s∧¬ bestR p n s.1<s.1.getD (idxR n) 0:=by
 unfold relB at h ⊢
 split
 ·rename_i h1;rw[if_pos h1]at h;cases h
 ·rename_i h1;exact⟨rfl,h1⟩
theorem passB_same{p:List UInt8}:∀{L:List RN} {s:List Nat×Bool},(passB p L s).2=false→passB p L s=s∧∀n ∈ L,¬ bestR p n s.1<s.1.getD (idxR n) 0
 | [],s,h=>⟨rfl,by simp⟩
 | n::L,s,h=>by
  have h0:passB p (n::L) s=passB p L (relB p s n):=rfl
  rw[h0]at h ⊢
  obtain⟨e,f⟩:=passB_same (L:=L) h
  rw[e]at h
  obtain⟨e1,f1⟩:=relB_same h
  rw[e,e1]
  rw[e1]at f
  refine⟨rfl,fun o ho=>?_⟩
  rcases List.mem_cons.1 ho with rfl|ho
  ·exact f1
  ·exact f o ho
theorem stlB_fix{p:List UInt8}{i:Nat}(hi:i≤p.length){c c':List Nat}(h:StlB p i c c'):UpB p p.length i c→(c'.length=c.length∧(∀j,c'.getD j 0≤c.getD j 0)∧(∀j,(j<i*128∨(i+1)*128≤j)→c'.getD j 0=c.getD j 0))∧∀n:RN,n.ok p.length→n.i=i→c'.getD (idxR n) 0=bestR p n c':=by
 have hnd:=nodesR_ok hi
 induction h with
 | @done c c' h=>
  intro hu
  have hst:=passB_stp (p:=p) (s:=(c,false)) hnd
  have e:=passB_same (p:=p) (L:=nodesR i) (s:=(c,false)) (by rw[h])
  rw[h]at e
  have ec:c'=c:=congrArg Prod.fst e.1
  subst ec
  refine⟨⟨rfl,fun _=>Nat.le_refl _,fun _ _=>rfl⟩,fun n hn hni=>?_⟩
  have h1:=e.2 n (by rw[←hni];exact nodesR_mem hn)
  have h2:=hu.2 n hn hni
  simp only at h1
  omega
 | @more c d c' h _ ih=>
  intro hu
  have hst:=passB_stp (p:=p) (s:=(c,false)) hnd
  have hup:=passB_up (p:=p) (s:=(c,false)) hnd hu
  rw[h]at hst hup
  obtain⟨⟨g1,g2,g3⟩,g4⟩:=ih hup
  exact⟨⟨g1.trans hst.len,fun j=>Nat.le_trans (g2 j) (hst.le j),fun j hj=>(g3 j hj).trans (hst.ne j hj)⟩,g4⟩
theorem rowB_get{i:Nat}{c:List Nat}(hl:(i+1)*128≤c.length):∀k,k≤128→(rowB i c k).length=c.length∧∀j,(rowB i c k).getD j 0=if i*128≤j∧j<i*128+k then 1099511627776 else c.getD j 0
 | 0,_=>⟨rfl,fun j=>by rw[if_neg (by omega)];rfl⟩
 | k+1,h=>by
  obtain⟨h1,h2⟩:=rowB_get (i:=i) hl k (by omega)
  refine⟨by simp[rowB,h1],fun j=>?_⟩
  simp only[rowB]
  rw[getD_set (by omega),h2]
  by_cases e:j=i*128+k
  ·rw[if_pos e,if_pos (by omega)]
  ·rw[if_neg e]
   by_cases e2:i*128≤j∧j<i*128+k
   ·rw[if_pos e2,if_pos (by omega)]
   ·rw[if_neg e2,if_neg (by omega)]
theorem newB_le{p:List UInt8}{a:Nat}{c:List Nat}(h:NewB p a c):a≤p.length+1:=by
 induction h with
 | start=>exact Nat.le_refl _
 | step _ _ ih=>omega
theorem newB_ok{p:List UInt8}{a:Nat}{c:List Nat}(h:NewB p a c):(c.length=(p.length+1)*128∧∀j,c.getD j 0≤1099511627776)∧∀n:RN,n.ok p.length→a≤n.i→c.getD (idxR n) 0=bestR p n c:=by
 induction h with
 | start=>exact⟨⟨by simp,fun j=>by simp only[List.getD_eq_getElem?_getD,List.getElem?_replicate];split<;>simp⟩,fun n hn h1=>by have:=hn.i;omega⟩
 | @step a c c' hn hs ih=>
  obtain⟨⟨hl,hle⟩,hr⟩:=ih
  have ha:=newB_le hn
  have hal:(a+1)*128≤c.length:=by
   rw[hl]
   exact Nat.mul_le_mul_right 128 (by omega)
  obtain⟨g1,g2⟩:=rowB_get hal 128 (Nat.le_refl _)
  have hup:UpB p p.length a (rowB a c 128):=by
   refine⟨g1.trans hl,fun n hn hi=>?_⟩
   rw[g2,if_pos (by have:=numR_lt hn;unfold idxR;rw[hi];omega)]
   exact Nat.le_trans best_le (base0_le _ _)
  obtain⟨⟨f1,f2,f3⟩,f4⟩:=stlB_fix (by omega) hs hup
  refine⟨⟨by rw[f1,g1,hl],fun j=>?_⟩,fun n hn h1=>?_⟩
  ·refine Nat.le_trans (f2 j) ?_
   rw[g2]
   split
   ·exact Nat.le_refl _
   ·exact hle j
  ·by_cases e:n.i=a
   ·exact f4 n hn e
   ·have hag:∀j,n.i*128≤j→c'.getD j 0=c.getD j 0:=by
     intro j hj
     have hj2:(a+1)*128≤j:=Nat.le_trans (Nat.mul_le_mul_right 128 (by omega)) hj
     rw[f3 j (.inr hj2),g2,if_neg (by omega)]
    rw[best_agr hag,hag _ (by unfold idxR;omega)]
    exact hr n hn (by omega)
structure SolR (p:List UInt8)(c:List Nat):Prop where
 len:c.length=(p.length+1)*128
 le:∀j,c.getD j 0≤1099511627776
 eq:∀n:RN,n.ok p.length→c.getD (idxR n) 0=bestR p n c
theorem newB_sol{p:List UInt8}{c:List Nat}(h:NewB p 0 c):SolR p c:=by
 obtain⟨⟨h1,h3⟩,h2⟩:=newB_ok h
 exact⟨h1,h3,fun n hn=>h2 n hn (Nat.zero_le _)⟩
end Go.Proofs.Ythnflhimcmdnbaa
namespace Go.Proofs.Ythnflhimcmdnbaa
open Go.Abs
set_option linter.unusedSimpArgs false
set_option linter.unusedVariables false
set_option maxRecDepth 20000
theorem zeros128(n:Nat):zeros (List.replicate 128 (Value.int .i64 0)) n=uN (List.replicate (n*128) 0):=by
 have:zeros (List.replicate 128 (Value.int .i64 0)) n=List.replicate (n*128) (Value.int .i64 0):=by
  unfold zeros
  induction n with
  | zero=>rfl
  | succ n ih=>rw[List.replicate_succ,List.flatten_cons,ih,List.replicate_append_replicate,Nat.succ_mul,Nat.add_comm]
 rw[this,uN,List.map_replicate];rfl
structure CoW (A H:Heap)(kb:Nat)(v:Value)(p:List UInt8)(C:List Nat):Prop where
 s:CoH H kb v p C
 pl:SlU A v p
 ext:Ext A H
 kbA:A.length≤kb
theorem CoW.mono{A H H':Heap}{kb:Nat}{v:Value}{p:List UInt8}{C:List Nat}(h:CoW A H kb v p C)(e:Ext H H'):CoW A H' kb v p C:=
 ⟨h.s.ext e,h.pl,h.ext.trans e,h.kbA⟩
theorem CoW.set{A H H':Heap}{kb i x:Nat}{v:Value}{p:List UInt8}{C:List Nat}(h:CoW A H kb v p C)(hk:Keep kb H H')(hg:H'.get kb=some (uN (C.set i x)))(hx:x≤1099511627776):CoW A H' kb v p (C.set i x):=by
 have hA:=hk.ext h.ext h.kbA
 refine⟨⟨hg,h.pl.mono hA,by simpa using h.s.len,h.s.hi,fun j=>?_⟩,h.pl,hA,h.kbA⟩
 by_cases hi:i<C.length
 ·rw[getD_set hi];split
  ·exact hx
  ·exact h.s.le j
 ·rw[List.set_eq_of_length_le (by omega)];exact h.s.le j
theorem nodesR_len(i:Nat):(nodesR i).length≤100:=by
 have:=ndM_len i 2
 have:=ndE_len i 4
 unfold nodesR
 simp;omega
section
variable {lo:Nat}{H:Heap}{v:Value}{p:List UInt8}
theorem costsP(hp:SlU H v p)(hl:p.length≤4096)(hlo:lo≤H.length):Ev cp lo 19 [v] H (fun r H'=>Ext H H'∧∃C,NewB p 0 C∧r=coV H.length p∧CoH H' H.length v p C):=by
 obtain⟨ad,c,ev⟩:=hp.len
 subst ev
 have htn:((p.length:Int)+1).toNat=p.length+1:=by omega
 refine st19 ?_;unfold bd19 cf19;simp only[kB,ctlB]
 repeat' ((first|refine xSDg ?_|refine xODg rfl ?_);(try simp only[ctlB]))
 clear htn
 generalize hC:uN (List.replicate ((p.length+1)*128) 0)=C
 have hz:=(zeros128 (p.length+1)).trans hC
 generalize hZ:zeros _ (p.length+1)=Z
 have hzz:Z=C:=hZ.symm.trans hz
 subst hzz
 clear hz hZ
 have hxb:Ext H (H++[some Z]):=Ext.app _ _
 have hg0:(H++[some Z]).get H.length=some Z:=get_app0
 change wpS cp lo _ _ _ (H++[some Z])
 generalize H++[some Z]=H0 at hxb hg0
 have hs0:CoW H H0 H.length (.slice ad p.length c) p (List.replicate ((p.length+1)*128) 0):=by
  refine⟨⟨by rw[hC];exact hg0,hp.mono hxb,by simp,hl,fun i=>?_⟩,hp,hxb,Nat.le_refl _⟩
  simp only[List.getD_eq_getElem?_getD,List.getElem?_replicate]
  split<;>simp
 clear hg0 hC
 have hn0:NewB p (p.length+1) (List.replicate ((p.length+1)*128) 0):=.start
 generalize List.replicate ((p.length+1)*128) 0=cs at hs0 hn0
 refine aw_for (fun k S H'=>(∃cs,NewB p (p.length+1-k) cs∧CoW H H' H.length (.slice ad p.length c) p cs)∧∃(z:Nat→Value),S=[.slice ad p.length c,z 1,coV H.length p,.int .i64 ((p.length:Int)-(k:Nat)),z 4,z 5,z 6,z 7,z 8,z 9,z 10,z 11,z 12,z 13,z 14,z 15,z 16,z 17]) (p.length+1) ⟨⟨cs,hn0,hs0⟩,exZDe (by simp)⟩ ?_ ?_ ?_
 ·rintro k S H' hk ⟨h1,z,rfl⟩
  exact⟨decide ((p.length:Int)-(k:Nat)≥0),by simp(disch:=first|omega|(simp only[lenB];omega))only[evB,xBDc,Nat.reduceAdd,Nat.reduceBEq,Int.reduceToNat, *],by simp;omega⟩
 ·rintro k S H1 hk ⟨⟨cs,hn,hs⟩,z,rfl⟩
  obtain⟨a,ha,hak⟩:∃a:Nat,(p.length:Int)-(k:Nat)=(a:Nat)∧p.length+1-k=a+1∧p.length+1-(k+1)=a∧a≤p.length:=⟨p.length-k,by omega,by omega⟩
  have ha2:(p.length:Int)-((k+1:Nat):Nat)=(a:Nat)-1:=by omega
  rw[hak.2.1,ha2,ha]
  rw[hak.1]at hn
  obtain⟨_,_,hap⟩:=hak
  clear ha2 ha hs0 hn0
  replace hn:False∨_:=.inr hn
  have hx1:=hs.ext
  have hl1:=hx1.1
  have hkl1:=Heap.get_lt hs.s.c
  (try simp only[ctlB])
  refine xHDg ?_
  refine wpH_call0 (nodesP (lo:=lo) (i:=a) (by omega) (by omega)) ?_
  rintro r H2 ⟨hx2,nb,hnb,ho⟩
  have hnd:=nodesR_ok (N:=p.length) hap
  have hLl:=nodesR_len a
  obtain⟨aw,rfl⟩:=ho.len (by omega) rnC_len
  have hs2:=hs.mono hx2
  have hl2:=hx2.1
  obtain⟨L,hL⟩:∃L,False∨nodesR a=L:=⟨_,.inr rfl⟩
  rw[hL.resolve_left id]at ho hnd hLl ⊢
  clear hs
  (try simp only[ctlB])
  repeat' ((first|refine xSDg ?_|refine xODg rfl ?_);(try simp only[ctlB]))
  refine aw_midXB (fun S' H'=>(Keep H.length H2 H'∧CoW H H' H.length (.slice ad p.length c) p (rowB a cs 128))∧∃(z:Nat→Value),S'=[.slice ad p.length c,z 1,coV H.length p,encN a,.slice aw L.length L.length,z 5,z 6,z 7,z 8,z 9,z 10,z 11,z 12,z 13,z 14,z 15,z 16,z 17]) ?_ ?_
  ·refine aw_for (fun j S H'=>(Keep H.length H2 H'∧CoW H H' H.length (.slice ad p.length c) p (rowB a cs j))∧∃(z:Nat→Value),S=[.slice ad p.length c,z 1,coV H.length p,encN a,.slice aw L.length L.length,.int .i64 (j:Nat),z 6,z 7,z 8,z 9,z 10,z 11,z 12,z 13,z 14,z 15,z 16,z 17]) 128 ⟨⟨Ext.keep (Ext.refl _),hs2⟩,exZDe rfl⟩ ?_ ?_ ?_
   ·rintro j S H' hj ⟨h1,z,rfl⟩
    exact⟨decide ((j:Int)<128),by simp(disch:=first|omega|(simp only[lenB];omega))only[evB,xBDc,Nat.reduceAdd,Nat.reduceBEq,Int.reduceToNat, *],by simp;omega⟩
   ·rintro j S H3 hj ⟨⟨hk3,hs3⟩,z,rfl⟩
    have hr:rowB a cs (j+1)=(rowB a cs j).set (a*128+j) 1099511627776:=rfl
    rw[hr]
    clear hr hs2
    generalize rowB a cs j=ss at hs3 ⊢
    have hgc:=hs3.s.c
    have hll:=Heap.get_lt hgc
    have hlen:=hs3.s.len
    have hidx:a*128+j<ss.length:=by omega
    have hul:(uN ss).length≤ss.length∧ss.length≤(uN ss).length:=by simp
    have hset:False∨(uN ss).set (a*128+j) (encN 1099511627776)=uN (ss.set (a*128+j) 1099511627776):=.inr (by simp[uN,List.map_set])
    generalize uN ss=Y at hgc hul hset
    replace hlen:ss.length≤(p.length+1)*128∧(p.length+1)*128≤ss.length:=by omega
    (try simp only[ctlB])
    repeat' ((first|refine xSDg ?_|refine xODg rfl ?_);(try simp only[ctlB]))
    have hk7:Keep H.length H3 (List.set H3 H.length (some (Y.set (a*128+j) (Value.int .i64 1099511627776)))):=keepSet
    have hg7:Heap.get (List.set H3 H.length (some (Y.set (a*128+j) (Value.int .i64 1099511627776)))) H.length=some (Y.set (a*128+j) (Value.int .i64 1099511627776)):=get_set_self (by omega)
    exact⟨⟨keepTrans hk3 (.inl rfl) hk7,hs3.set hk7 (by rw[hg7];exact congrArg some (hset.resolve_left id)) (by omega)⟩,exZDe (by first|rfl|(simp only[Int.natCast_add,Int.natCast_one];rfl)|simp only[Int.natCast_add,Int.natCast_one])⟩
   ·rintro S H3 ⟨h3,z,rfl⟩
    (try simp only[ctlB])
    exact⟨h3,exZDe rfl⟩
  clear hs2
  rintro S H3 ⟨⟨hk3,hs3⟩,z,rfl⟩
  obtain⟨c0,hc0⟩:∃c0,False∨rowB a cs 128=c0:=⟨_,.inr rfl⟩
  rw[hc0.resolve_left id]at hs3
  (try simp only[ctlB])
  repeat' ((first|refine xSDg ?_|refine xODg rfl ?_);(try simp only[ctlB]))
  refine aw_loop' (fun m S H'=>∃(c1:List Nat) (t:Bool),(Keep H.length H2 H'∧CoW H H' H.length (.slice ad p.length c) p c1)∧((t=true∧m=c1.sum+1∧∀c',StlB p a c1 c'→StlB p a c0 c')∨(t=false∧m=0∧StlB p a c0 c1))∧∃(z:Nat→Value),S=[.slice ad p.length c,z 1,coV H.length p,encN a,.slice aw L.length L.length,z 5,.bool t,z 7,z 8,z 9,z 10,z 11,z 12,z 13,z 14,z 15,z 16,z 17]) (c0.sum+1) ⟨c0,true,⟨hk3,hs3⟩,.inl ⟨rfl,rfl,fun _ h=>h⟩,exZDe rfl⟩ ?_
  clear hs3 hk3
  rintro m S H3 ⟨c1,t,⟨hk3,hs3⟩,hcase,z,rfl⟩
  rcases hcase with ⟨rfl,hm,hst⟩|⟨rfl,hm,hst⟩
  ·replace hst:False∨_:=.inr hst
   replace hm:m≤c1.sum+1∧c1.sum+1≤m:=by omega
   (try simp only[ctlB])
   refine xCDg (fun h=>?_) (fun h=>?_)
   ·clear h
    (try simp only[ctlB])
    repeat' ((first|refine xSDg ?_|refine xODg rfl ?_);(try simp only[ctlB]))
    refine aw_for (fun k S H'=>(Keep H.length H2 H'∧CoW H H' H.length (.slice ad p.length c) p (passB p (L.take k) (c1,false)).1)∧∃(z:Nat→Value),S=[.slice ad p.length c,z 1,coV H.length p,encN a,.slice aw L.length L.length,z 5,.bool (passB p (L.take k) (c1,false)).2,.int .i64 (k:Nat),z 8,z 9,z 10,z 11,z 12,z 13,z 14,z 15,z 16,z 17]) L.length ⟨⟨hk3,hs3⟩,exZDe rfl⟩ ?_ ?_ ?_
    ·rintro k S H' hk ⟨h1,z,rfl⟩
     exact⟨decide ((k:Int)<(L.length:Nat)),by simp(disch:=first|omega|(simp only[lenB];omega))only[evB,xBDc,Nat.reduceAdd,Nat.reduceBEq,Int.reduceToNat, *],by simp⟩
    ·rintro k S H4 hk ⟨⟨hk4,hs4⟩,z,rfl⟩
     have hr:passB p (L.take (k+1)) (c1,false)=relB p (passB p (L.take k) (c1,false)) L[k]:=by
      unfold passB
      rw[List.take_succ_eq_append_getElem hk,List.foldl_append];rfl
     rw[hr]
     clear hr hs3 hk3
     have ho4:=ho.keep hk4 (by omega)
     obtain⟨p4,o4,X4,i4,g4,l4,e4⟩:=ho4.at (by omega) rnC_len hk
     obtain⟨hok,hni⟩:=hnd _ (List.getElem_mem hk)
     generalize passB p (L.take k) (c1,false)=s4 at hs4 ⊢
     generalize L[k]=n at e4 hok hni ⊢
     replace hni:n.i≤a∧a≤n.i:=by omega
     replace e4:(X4.drop o4).take 5=[encN n.i,encN n.m,encN n.ph,encN n.s,.bool n.u]:=e4
     have hl4:=hk4.len
     replace i4:∀G,lsem (.iAddr 5) [.slice aw L.length L.length,.int .i64 (k:Nat)] G=some (.pointer (some ⟨p4,o4,none⟩)):=fun G=>by
      clear ho4 ho
      rcases aw with _|⟨b0,o0,_|s0⟩<;>exact i4
     (try simp only[ctlB])
     repeat' ((first|refine xSDg ?_|refine xODg rfl ?_);(try simp only[ctlB]))
     refine xHDg ?_
     refine wpH_call0 (bestP (lo:=lo) (n:=n) hs4.s hok (by omega)) ?_
     rintro r H5 ⟨hx5,rfl⟩
     have hs5:=hs4.mono hx5
     have hk5:Keep H.length H4 H5:=Ext.keep hx5
     have hl5:=hx5.1
     replace g4:=hx5.get g4
     clear ho4
     have hrel:relB p s4 n=if bestR p n s4.1<s4.1.getD (a*128+numR n) 0 then(s4.1.set (a*128+numR n) (bestR p n s4.1),true) else s4:=by
      have e:n.i=a:=by omega
      unfold relB idxR
      rw[e]
     replace hrel:False∨_:=.inr hrel
     have hbl:bestR p n s4.1≤1099511627776:=Nat.le_trans best_le (base0_le _ _)
     obtain⟨ss,bb⟩:=s4
     simp only at hs4 hs5 hrel hbl ⊢
     have hnl:=numR_lt hok
     have hgc:=hs5.s.c
     have hlen:=hs5.s.len
     have hidx:a*128+numR n<ss.length:=by omega
     have hat:=uN_at hidx
     have hle:=hs5.s.le (a*128+numR n)
     have hul:(uN ss).length≤ss.length∧ss.length≤(uN ss).length:=by simp
     have hset:False∨∀y,(uN ss).set (a*128+numR n) (encN y)=uN (ss.set (a*128+numR n) y):=.inr (fun y=>by simp[uN,List.map_set])
     have hno:=fun H (h:H5.length≤H.length)=>numP (lo:=lo) (H:=H) hok (by omega)
     have hno5:=hno H5 (Nat.le_refl _)
     generalize bestR p n ss=x at hrel hbl ⊢
     generalize ss.getD (a*128+numR n) 0=y at hat hrel hle
     generalize uN ss=Y at hgc hat hul hset
     replace hlen:ss.length≤(p.length+1)*128∧(p.length+1)*128≤ss.length:=by omega
     generalize numR n=nx at hat hidx hnl hno5 hno hrel hset
     (try simp only[ctlB])
     repeat' ((first|refine xSDg ?_|refine xODg rfl ?_);(try simp only[ctlB]))
     refine xHDg ?_
     refine wpH_callC (first:=#[]) (cap:=#[]) (args:=[rnV n]) hno5 ?_
     rintro r H6 ⟨hx6,rfl⟩
     have hs6:=hs5.mono hx6
     have hk6:Keep H.length H4 H6:=Ext.keep (hx5.trans hx6)
     have hl6:=hx6.1
     replace g4:=hx6.get g4
     replace hgc:=hx6.get hgc
     have hkl6:=Heap.get_lt hgc
     by_cases hxy:x<y
     ·have hd:decide ((x:Int)<(y:Nat))=true:=decide_eq_true (by omega)
      have e:=hrel.resolve_left id
      rw[if_pos hxy]at e
      rw[e]
      clear e hrel
      (try simp only[ctlB])
      refine xCDg (fun h=>?_) (fun h=>?_)
      ·clear h hd
       (try simp only[ctlB])
       refine xHDg ?_
       refine wpH_callC (first:=#[]) (cap:=#[]) (args:=[rnV n]) (hno H6 (by omega)) ?_
       rintro r H7 ⟨hx7,rfl⟩
       have hs7:=hs6.mono hx7
       have hk7:Keep H.length H4 H7:=keepTrans hk6 (.inl rfl) (Ext.keep hx7)
       replace hgc:=hx7.get hgc
       have hkl7:=Heap.get_lt hgc
       clear hno hno5
       (try simp only[ctlB])
       repeat' ((first|refine xSDg ?_|refine xODg rfl ?_);(try simp only[ctlB]))
       have e2:=hset.resolve_left id x
       have hk8:Keep H.length H7 (List.set H7 H.length (some (Y.set (a*128+nx) (Value.int .i64 (x:Nat))))):=keepSet
       have hg8:Heap.get (List.set H7 H.length (some (Y.set (a*128+nx) (Value.int .i64 (x:Nat))))) H.length=some (Y.set (a*128+nx) (Value.int .i64 (x:Nat))):=get_set_self (by omega)
       exact⟨⟨keepTrans hk4 (.inl rfl) (keepTrans hk7 (.inl rfl) hk8),hs7.set hk8 (by rw[hg8];exact congrArg some e2) (by omega)⟩,exZDe (by first|rfl|(simp only[Int.natCast_add,Int.natCast_one];rfl)|simp only[Int.natCast_add,Int.natCast_one])⟩
      ·exfalso;simp at h
     ·have hd:decide ((x:Int)<(y:Nat))=false:=decide_eq_false (by omega)
      have e:=hrel.resolve_left id
      rw[if_neg hxy]at e
      rw[e]
      clear e hrel
      (try simp only[ctlB])
      refine xCDg (fun h=>?_) (fun h=>?_)
      ·exfalso;simp at h
      ·clear h hd
       (try simp only[ctlB])
       repeat' ((first|refine xSDg ?_|refine xODg rfl ?_);(try simp only[ctlB]))
       exact⟨⟨keepTrans hk4 (.inl rfl) hk6,hs6⟩,exZDe (by first|rfl|(simp only[Int.natCast_add,Int.natCast_one];rfl)|simp only[Int.natCast_add,Int.natCast_one])⟩
    ·rintro S H4 ⟨⟨hk4,hs4⟩,z,rfl⟩
     rw[List.take_length]at hs4 ⊢
     have hrow:=passB_stp (p:=p) (s:=(c1,false)) hnd
     obtain⟨d,t,hdt⟩:∃d t,passB p L (c1,false)=(d,t):=⟨_,_,rfl⟩
     rw[hdt]at hs4 hrow ⊢
     clear hs3 hk3
     have hdt2:False∨passB p (nodesR a) (c1,false)=(d,t):=.inr (by rw[hL.resolve_left id];exact hdt)
     clear hdt
     (try simp only[ctlB])
     refine⟨if t then d.sum+1 else 0,?_,d,t,⟨hk4,hs4⟩,?_,exZDe rfl⟩
     ·cases t with
      | true=>
       rcases hrow.fl rfl with h|h
       ·cases h
       ·simp only at h ⊢;simp;omega
      | false=>simp;omega
     ·cases t with
      | true=>exact .inl ⟨rfl,rfl,fun c' h=>hst.resolve_left id c' (.more (hdt2.resolve_left id) h)⟩
      | false=>exact .inr ⟨rfl,rfl,hst.resolve_left id _ (.done (hdt2.resolve_left id))⟩
   ·cases h
  ·replace hst:False∨_:=.inr hst
   replace hm:m≤0:=by omega
   (try simp only[ctlB])
   refine xCDg (fun h=>?_) (fun h=>?_)
   ·cases h
   ·(try simp only[ctlB])
    repeat' ((first|refine xSDg ?_|refine xODg rfl ?_);(try simp only[ctlB]))
    refine⟨⟨c1,.step (hn.resolve_left id) ?_,hs3⟩,exZDe (by first|rfl|(simp only[Int.natCast_add,Int.natCast_one];rfl)|simp only[Int.natCast_add,Int.natCast_one])⟩
    rw[hc0.resolve_left id]
    exact hst.resolve_left id
 ·rintro S H1 ⟨⟨cs,hn,hs⟩,z,rfl⟩
  rw[Nat.sub_self]at hn
  have hx:=hs.ext
  replace hn:False∨_:=.inr hn
  (try simp only[ctlB])
  repeat' ((first|refine xSDg ?_|refine xODg rfl ?_);(try simp only[ctlB]))
  refine xRDg ?_
  exact⟨hx,cs,hn.resolve_left id,rfl,hs.s⟩
end
end Go.Proofs.Ythnflhimcmdnbaa
namespace Go.Proofs.Ythnflhimcmdnbaa
open Go.Abs
set_option linter.unusedSimpArgs false
set_option linter.unusedVariables false
set_option maxRecDepth 20000
def chS(C:List Nat)(t:Nat)(s:RS×Bool)(x:RS):RS×Bool:=if totR C x=t∧(s.2=false∨lessR x s.1=true) then(x,true) else s
def zeroR:RS:=⟨0,0,0,0,asR 0⟩
def choR(p:List UInt8)(n:RN)(C:List Nat):RS:=((stepsR p n).foldl (chS C (C.getD (idxR n) 0)) (zeroR,false)).1
section
variable {lo:Nat}{H:Heap}{v:Value}{p:List UInt8}
theorem choiceP{n:RN}{kb:Nat}{C:List Nat}(hs:CoH H kb v p C)(hn:n.ok p.length)(hlo:lo≤H.length):Ev cp lo 20 [v,rnV n,coV kb p] H (fun r H'=>Ext H H'∧r=rsV (choR p n C)):=by
 obtain⟨ad,c,ev⟩:=hs.pl.len
 rw[ev]at hs ⊢
 clear ev
 have h1:=hn.i
 have hl:=hs.hi
 refine st20 ?_;unfold bd20 cf20;simp only[kB,ctlB]
 repeat' ((first|refine xSDg ?_|refine xODg rfl ?_);(try simp only[ctlB]))
 have hxb:Ext H (H++[some (rnC n),some (rsC zeroR)]):=Ext.app _ _
 have hgb:(H++[some (rnC n),some (rsC zeroR)]).get H.length=some [encN n.i,encN n.m,encN n.ph,encN n.s,.bool n.u]:=get_app0
 have hgz:(H++[some (rnC n),some (rsC zeroR)]).get (H.length+1)=some (rsC zeroR):=by rw[get_appS];rfl
 change wpS cp lo _ _ _ (H++[some (rnC n),some (rsC zeroR)])
 generalize H++[some (rnC n),some (rsC zeroR)]=Hb at hxb hgb hgz
 have hlb:=Heap.get_lt hgz
 refine xHDg ?_
 refine wpH_call0 (stepsP (n:=n) (hs.ext hxb).pl hn hl (by omega)) ?_
 rintro r H1 ⟨hx1,b,hb,ho⟩
 have hok:=stepsR_ok hn
 have hsl:=stepsR_len p n
 unfold choR
 generalize stepsR p n=L at ho hok hsl ⊢
 obtain⟨aw,rfl⟩:=ho.len (by omega) rsC_len
 have hs1:=hs.ext (hxb.trans hx1)
 have hx01:=hxb.trans hx1
 have hgb1:=hx1.get hgb
 have hgz1:=hx1.get hgz
 have hl1:=hx1.1
 have hnl:=numR_lt hn
 have hidn:n.i*128+numR n<C.length:=by rw[hs.len];exact idx_lt hn
 obtain⟨cn,hcn⟩:∃y,False∨C.getD (idxR n) 0=y:=⟨_,.inr rfl⟩
 have hatn:=uN_at hidn
 have hcn2:C.getD (n.i*128+numR n) 0=cn:=hcn.resolve_left id
 rw[hcn2]at hatn
 rw[hcn.resolve_left id]
 clear hcn hcn2
 (try simp only[ctlB])
 repeat' ((first|refine xSDg ?_|refine xODg rfl ?_);(try simp only[ctlB]))
 have hxc:Ext H1 (H1++[some (rsC zeroR)]):=Ext.app _ _
 have hgc:(H1++[some (rsC zeroR)]).get H1.length=some (rsC zeroR):=get_app0
 change wpS cp lo _ _ _ (H1++[some (rsC zeroR)])
 generalize H1++[some (rsC zeroR)]=H2 at hxc hgc
 have hnoN:=fun H:Heap=>numP (lo:=H.length) (H:=H) hn (by omega)
 refine aw_for (fun k S H'=>(Keep H1.length H2 H'∧H'.get H1.length=some (rsC ((L.take k).foldl (chS C cn) (zeroR,false)).1))∧∃(z:Nat→Value),S=[.slice ad p.length c,z 1,coV kb p,ptr H.length,ptr (H.length+1),.slice aw L.length L.length,ptr H1.length,.bool ((L.take k).foldl (chS C cn) (zeroR,false)).2,.int .i64 (k:Nat),z 9,z 10,z 11,z 12,z 13,z 14,z 15,z 16,z 17,z 18,z 19,z 20]) L.length ⟨⟨Ext.keep (Ext.refl _),hgc⟩,exZDe rfl⟩ ?_ ?_ ?_
 ·rintro k S H' hk ⟨_,z,rfl⟩
  exact⟨decide ((k:Int)<(L.length:Nat)),by simp(disch:=first|omega|(simp only[lenB];omega))only[evB,xBDc,Nat.reduceAdd,Nat.reduceBEq,Int.reduceToNat, *],by simp⟩
 ·rintro k S H3 hk ⟨⟨hk3,hg3⟩,z,rfl⟩
  clear hgc hgb hgz
  have hx3:=hk3.ext hxc (Nat.le_refl _)
  have hl3:=hx3.1
  have hs3:=hs1.ext hx3
  have ho3:=ho.mono hx3
  have hgb3:=hx3.get hgb1
  obtain⟨p4,o4,X4,i4,g4,l4,e4⟩:=ho3.at (by omega) rsC_len hk
  replace i4:∀G,lsem (.iAddr 9) [.slice aw L.length L.length,.int .i64 (k:Nat)] G=some (.pointer (some ⟨p4,o4,none⟩)):=fun G=>by
   clear ho3 ho
   rcases aw with _|⟨b0,o0,_|s0⟩<;>exact i4
  have hoo:=hok _ (List.getElem_mem hk)
  have hr:(L.take (k+1)).foldl (chS C cn) (zeroR,false)=chS C cn ((L.take k).foldl (chS C cn) (zeroR,false)) L[k]:=by
   rw[List.take_succ_eq_append_getElem hk,List.foldl_append];rfl
  rw[hr]
  clear hr
  generalize (L.take k).foldl (chS C cn) (zeroR,false)=s at hg3 ⊢
  generalize L[k]=x at e4 hoo ⊢
  have hj:∀j,j<9→X4[o4+j]?=(rsC x)[j]?:=fun j hj=>by rw[←e4,List.getElem?_take,if_pos hj,List.getElem?_drop]
  have f3:X4[o4+3]?=some (encN x.c):=hj 3 (by omega)
  have f4:X4[o4+4]?=some (encN x.to.i):=hj 4 (by omega)
  have f5:(X4.drop (o4+4)).take 5=rnC x.to:=by
   have h5:(X4.drop (o4+4)).take 5=((X4.drop o4).take 9).drop 4:=by rw[List.drop_take,List.drop_drop]
   rw[h5,e4]
   rfl
  clear hj
  have hil:=hoo.to.i
  have hnl2:=numR_lt hoo.to
  have hxc2:=hoo.c
  have hgC:=hs3.c
  have hidx:x.to.i*128+numR x.to<C.length:=by have:=hs3.len;omega
  have hat:=uN_at hidx
  have hle:=hs3.le (x.to.i*128+numR x.to)
  have hul:(uN C).length≤C.length∧C.length≤(uN C).length:=by simp
  have hlen:C.length≤(p.length+1)*128∧(p.length+1)*128≤C.length:=by have:=hs3.len;omega
  have hm2:chS C cn s x=if x.c+C.getD (x.to.i*128+numR x.to) 0=cn∧(s.2=false∨lessR x s.1=true) then(x,true) else s:=rfl
  rw[hm2]
  clear hm2
  have hno:=numP (lo:=H3.length) (H:=H3) hoo.to (by omega)
  generalize C.getD (x.to.i*128+numR x.to) 0=y at hat hle ⊢
  obtain⟨U,hU⟩:∃U,False∨uN C=U:=⟨_,.inr rfl⟩
  have hatn':=hatn
  rw[hU.resolve_left id]at hgC hat hul hatn'
  generalize numR x.to=nx at hat hidx hnl2 hno
  generalize numR n=nn at hatn' hidn hnl hnoN
  clear hatn
  obtain⟨so,sb⟩:=s
  simp only at hg3 ⊢
  (try simp only[ctlB])
  refine aw_hv_if (t:=true) (xEDg) (by simp(disch:=first|omega|(simp only[lenB];omega))only[evB,xBDc,Nat.reduceAdd,Nat.reduceBEq,Int.reduceToNat, *]) (by simp(disch:=first|omega|(simp only[lenB];omega))only[evB,xBDc,Nat.reduceAdd,Nat.reduceBEq,Int.reduceToNat, *];try rfl) (fun _=>⟨_,xEDg,?_⟩) (fun h=>by cases h)
  refine wpH_call1 hno ?_
  rintro r H4 ⟨hx4,rfl⟩
  have hl4:=hx4.1
  replace hgC:=hx4.get hgC
  replace hgb3:=hx4.get hgb3
  (try simp only[ctlB])
  refine aw_hv_if (t:=true) (xEDg) (by simp(disch:=first|omega|(simp only[lenB];omega))only[evB,xBDc,Nat.reduceAdd,Nat.reduceBEq,Int.reduceToNat, *]) (by simp(disch:=first|omega|(simp only[lenB];omega))only[evB,xBDc,Nat.reduceAdd,Nat.reduceBEq,Int.reduceToNat, *];try rfl) (fun _=>⟨_,xEDg,?_⟩) (fun h=>by cases h)
  refine wpH_call1 (hnoN H4) ?_
  rintro r H5 ⟨hx5,rfl⟩
  have hx35:=hx4.trans hx5
  have hk5:Keep H1.length H2 H5:=keepTrans hk3 (.inl rfl) (Ext.keep hx35)
  have hl5:=hx35.1
  replace g4:=hx35.get g4
  replace hg3:=hx35.get hg3
  replace hgC:=hx5.get hgC
  have hgl5:=Heap.get_lt hg3
  clear hno hnoN hgb3
  obtain⟨tt,htt⟩:∃tt,(x.c:Int)+(y:Nat)=((tt:Nat):Int)∧x.c+y=tt∧tt≤1099511629776:=⟨x.c+y,by omega,rfl,by omega⟩
  obtain⟨ht1,ht2,ht3⟩:=htt
  rw[ht2]
  clear ht2
  have hrw:rsC x=[encN x.w,.int .i64 x.s,.int .i64 x.t,encN x.c,encN x.to.i,encN x.to.m,encN x.to.ph,encN x.to.s,.bool x.to.u]:=rfl
  have hset:List.set H5 H1.length (some (rsC x))=List.set H5 H1.length (some (rsC x)):=rfl
  have hkk:Keep H1.length H2 (List.set H5 H1.length (some (rsC x))):=keepTrans hk5 (.inl rfl) keepSet
  have hgg:Heap.get (List.set H5 H1.length (some (rsC x))) H1.length=some (rsC x):=get_set_self (by omega)
  clear hset hrw
  (try simp only[ctlB])
  by_cases ht:tt=cn
  ·have hd:decide ((tt:Int)=(cn:Nat))=true:=decide_eq_true (by omega)
   have hdn:((tt:Int)=(cn:Nat)):=by omega
   cases sb with
   | false=>
    rw[if_pos ⟨ht,.inl rfl⟩]
    replace ht:tt≤cn∧cn≤tt:=by omega
    refine aw_hv_if (t:=false) (xEDg) (by simp(disch:=first|omega|(simp only[lenB];omega))only[evB,xBDc,Nat.reduceAdd,Nat.reduceBEq,Int.reduceToNat, *]) (by simp(disch:=first|omega|(simp only[lenB];omega))only[evB,xBDc,Nat.reduceAdd,Nat.reduceBEq,Int.reduceToNat, *];try rfl) (fun h=>by cases h) (fun _=>?_)
    (try simp only[ctlB])
    refine xCDg (fun h=>?_) (fun h=>?_)
    ·clear h
     (try simp only[ctlB])
     repeat' ((first|refine xSDg ?_|refine xODg rfl ?_);(try simp only[ctlB]))
     exact⟨⟨hkk,hgg⟩,exZDe (by first|rfl|(simp only[Int.natCast_add,Int.natCast_one];rfl)|simp only[Int.natCast_add,Int.natCast_one])⟩
    ·cases h
   | true=>
    have hor:(tt=cn∧(true=false∨lessR x so=true))↔lessR x so=true:=by simp[ht]
    simp only[hor]
    clear hor
    replace ht:tt≤cn∧cn≤tt:=by omega
    refine aw_hv_if (t:=true) (xEDg) (by simp(disch:=first|omega|(simp only[lenB];omega))only[evB,xBDc,Nat.reduceAdd,Nat.reduceBEq,Int.reduceToNat, *]) (by simp(disch:=first|omega|(simp only[lenB];omega))only[evB,xBDc,Nat.reduceAdd,Nat.reduceBEq,Int.reduceToNat, *];try rfl) (fun _=>⟨_,xEDg,?_⟩) (fun h=>by cases h)
    refine wpH_callC (first:=#[]) (cap:=#[]) (args:=[rsV x,rsV so]) (lessP (lo:=lo) (H:=H5)) ?_
    rintro r H6 ⟨hx6,rfl⟩
    replace g4:=hx6.get g4
    replace hg3:=hx6.get hg3
    have hgl6:=Heap.get_lt hg3
    have hkk6:Keep H1.length H2 (List.set H6 H1.length (some (rsC x))):=keepTrans (keepTrans hk5 (.inl rfl) (Ext.keep hx6)) (.inl rfl) keepSet
    have hgg6:Heap.get (List.set H6 H1.length (some (rsC x))) H1.length=some (rsC x):=get_set_self (by omega)
    have hk6:Keep H1.length H2 H6:=keepTrans hk5 (.inl rfl) (Ext.keep hx6)
    cases lessR x so with
    | true=>
     rw[if_pos rfl]
     (try simp only[ctlB])
     refine xCDg (fun h=>?_) (fun h=>?_)
     ·clear h
      (try simp only[ctlB])
      repeat' ((first|refine xSDg ?_|refine xODg rfl ?_);(try simp only[ctlB]))
      exact⟨⟨hkk6,hgg6⟩,exZDe (by first|rfl|(simp only[Int.natCast_add,Int.natCast_one];rfl)|simp only[Int.natCast_add,Int.natCast_one])⟩
     ·cases h
    | false=>
     rw[if_neg (by simp)]
     (try simp only[ctlB])
     refine xCDg (fun h=>?_) (fun h=>?_)
     ·cases h
     ·(try simp only[ctlB])
      repeat' ((first|refine xSDg ?_|refine xODg rfl ?_);(try simp only[ctlB]))
      exact⟨⟨hk6,hg3⟩,exZDe (by first|rfl|(simp only[Int.natCast_add,Int.natCast_one];rfl)|simp only[Int.natCast_add,Int.natCast_one])⟩
  ·have hd:decide ((tt:Int)=(cn:Nat))=false:=decide_eq_false (by omega)
   rw[if_neg (fun h=>ht h.1)]
   refine aw_hv_if (t:=false) (xEDg) (by simp(disch:=first|omega|(simp only[lenB];omega))only[evB,xBDc,Nat.reduceAdd,Nat.reduceBEq,Int.reduceToNat, *]) (by simp(disch:=first|omega|(simp only[lenB];omega))only[evB,xBDc,Nat.reduceAdd,Nat.reduceBEq,Int.reduceToNat, *];try rfl) (fun h=>by cases h) (fun _=>?_)
   (try simp only[ctlB])
   refine xCDg (fun h=>?_) (fun h=>?_)
   ·exfalso;simp at h
   ·clear h
    (try simp only[ctlB])
    repeat' ((first|refine xSDg ?_|refine xODg rfl ?_);(try simp only[ctlB]))
    exact⟨⟨hk5,hg3⟩,exZDe (by first|rfl|(simp only[Int.natCast_add,Int.natCast_one];rfl)|simp only[Int.natCast_add,Int.natCast_one])⟩
 ·rintro S H3 ⟨⟨hk3,hg3⟩,z,rfl⟩
  rw[List.take_length]at hg3 ⊢
  generalize (L.foldl (chS C cn) (zeroR,false)).1=o at hg3 ⊢
  have hz3:=hk3.get (hxc.get hgz1) (by omega)
  have hlz:=Heap.get_lt hz3
  have hx3:=hk3.ext (hx01.trans hxc) (by omega)
  (try simp only[ctlB])
  repeat' ((first|refine xSDg ?_|refine xODg rfl ?_);(try simp only[ctlB]))
  refine xRDg ?_
  exact⟨keepSet.ext hx3 (by omega),rfl⟩
end
end Go.Proofs.Ythnflhimcmdnbaa
