/- Lemmas. -/
import Derived.Test.YtmnlgdpdgjbfgaaGreatL38
set_option linter.all false
namespace Go.Proofs.YtmnlgdpdgjbfgaaGreat
open Go.Abs
variable{p:List UInt8}
set_option maxRecDepth 20000
def eD(n:RN):Nat:=n.i*128+eX n
theorem zu{N:Nat}{n:RN}(h:n.ok N):eD n<(N+1)*128:=by
 have:=hO h;have:=h.i;unfold eD;omega
theorem E1{N:Nat}{n n':RN}(h:n.ok N)(h':n'.ok N)(hi:n.i=n'.i)(e:eX n=eX n'):n=n':=by
 obtain⟨h1,h2,⟨h3,h4,h5⟩,h6,h7⟩:=h;obtain⟨g1,g2,⟨g3,g4,g5⟩,g6,g7⟩:=h';obtain⟨i,m,ph,s,u⟩:=n;obtain⟨i',m',ph',s',u'⟩:=n';simp only at *;subst hi;unfold eX at e;simp only at e;have hm:m=m'/\ph=ph'/\s=s'/\u=u':=by
  by_cases a:m=3\/m=4
  ·rw[if_pos a]at e
   obtain⟨rfl,rfl⟩:=h7 byO;by_cases a':m'=3\/m'=4
   ·rw[if_pos a']at e
    obtain⟨rfl,rfl⟩:=g7 byO;exact⟨byO,byO,rfl,rfl⟩
   ·rw[if_neg a']at e
    exfalso;split at e<;>omega
  ·rw[if_neg a]at e
   by_cases a':m'=3\/m'=4
   ·rw[if_pos a']at e
    exfalso;split at e<;>omega
   ·rw[if_neg a']at e
    have k1:=h4 byO;have k2:=g4 byO;cases u<;>cases u'<;>simp only[ah₀,if_true,if_false]at e ⊢<;>refine⟨?_,?_,?_,?_⟩<;>first|trivial|omega|(exfalso;omega)
 obtain⟨rfl,rfl,rfl,rfl⟩:=hm;rfl
theorem Gy{N:Nat}{n n':RN}(h:n.ok N)(h':n'.ok N)(e:eD n=eD n'):n=n':=by
 have:=hO h;have:=hO h';unfold eD at e;have hi:n.i=n'.i:=byO;exact E1 h h' hi (by rw[hi]at e;omega)
theorem tX{N i:Nat}(hi:i<=N):∀n ∈ fh i,n.ok N/\n.i=i:=by
 intro n hn;unfold fh at hn;simp only[bd₀]at hn;rcases hn with (hn|hn)|hn
 ·obtain rfl:=List.mem_singleton.1 hn
  exact⟨fY hi,rfl⟩
 ·simp only[ndM,ndP,ndS,nd2,List.mem_flatMap,List.mem_range,be₀,List.not_mem_nil,or_false]at hn
  obtain⟨m,hm,ph,hph,s,hs,rfl|rfl⟩:=hn
  ·exact⟨⟨hi,by simp only;omega,⟨by simp only;omega,fun _=>by simp only;omega,fun e=>by simp only at e;omega⟩,by simp only;omega,fun e=>by simp only at e;omega⟩,rfl⟩
  ·exact⟨⟨hi,by simp only;omega,⟨by simp only;omega,fun _=>by simp only;omega,fun e=>by simp only at e;omega⟩,by simp only;omega,fun e=>by simp only at e;omega⟩,rfl⟩
 ·simp only[ndE,List.mem_flatMap,List.mem_range,bd₀]at hn
  obtain⟨ph,hph,hn|hn⟩:=hn
  ·split at hn
   ·obtain rfl:=List.mem_singleton.1 hn
    exact⟨⟨hi,by simp,⟨by simp only;omega,fun _=>by simp only;omega,fun e=>by simp only at e;omega⟩,by simp,fun _=>⟨rfl,rfl⟩⟩,rfl⟩
   ·cases hn
  ·obtain rfl:=List.mem_singleton.1 hn
   exact⟨⟨hi,by simp,⟨by simp only;omega,fun e=>absurd rfl e,fun e=>by simp only at e;omega⟩,by simp,fun _=>⟨rfl,rfl⟩⟩,rfl⟩
theorem yh{N:Nat}{n:RN}(h:n.ok N):n ∈ fh n.i:=by
 obtain⟨h1,h2,⟨h3,h4,h5⟩,h6,h7⟩:=h;obtain⟨i,m,ph,s,u⟩:=n;simp only at *;unfold fh;simp only[bd₀];by_cases e0:m=0
 ·subst e0
  obtain⟨rfl,rfl⟩:=h7 (.inl rfl);have:=h5 rfl;subst this;exact .inl (.inl (by simp[asR]))
 ·by_cases e3:3<=m
  ·obtain⟨rfl,rfl⟩:=h7 (.inr e3)
   refine .inr ?_;simp only[ndE,List.mem_flatMap,List.mem_range,bd₀];refine⟨ph,byO,?_⟩;by_cases e:m=3
   ·subst e
    exact .inl (by rw[if_pos (by have:=h4 byO;omega)];simp)
   ·have:m=4:=byO
    subst this;exact .inr (by simp)
  ·refine .inl (.inr ?_)
   simp only[ndM,ndP,ndS,nd2,List.mem_flatMap,List.mem_range,be₀,List.not_mem_nil,or_false];refine⟨m-1,byO,ph,by have:=h4 byO;omega,s,byO,?_⟩;have hm:m-1+1=m:=byO;rw[hm];cases u
   ·exact .inl rfl
   ·exact .inr rfl
theorem xY{p:List UInt8}{n:RN}:∀k,∀x ∈ dZ p n k,n.i<=x.to.i
 | 0,x,hx=>by
  unfold dZ at hx;split at hx
  ·obtain rfl:=List.mem_singleton.1 hx
   exact Nat.le_refl _
  ·cases hx
 | k+1,x,hx=>by
  unfold dZ at hx;rcases List.mem_append.1 hx with hx|hx
  ·exact xY k x hx
  ·cases hu:dH p n k with
   | none=>rw[hu]at hx;cases hx
   | some t=>
    rw[hu]at hx;obtain rfl:=List.mem_singleton.1 hx;unfold dH at hu;repeat' split at hu
    all_goals cases hu
    all_goals first|exact Nat.le_refl _|exact Nat.le_succ _
theorem CH{n:RN}:∀x ∈ bW p n,n.i<=x.to.i:=by
 intro x hx;unfold bW at hx;split at hx
 ·unfold cm at hx
  simp only[bd₀]at hx;rcases hx with (((hx|hx)|hx)|hx)|hx
  ·unfold gZ at hx
   split at hx
   ·obtain rfl:=List.mem_singleton.1 hx
    simp[asR]
   ·cases hx
  ·unfold nh at hx
   split at hx
   ·obtain rfl:=List.mem_singleton.1 hx
    simp[asR]
   ·cases hx
  ·unfold j8 at hx
   split at hx
   ·obtain rfl:=List.mem_singleton.1 hx
    simp[asR]
   ·cases hx
  ·unfold kf at hx
   obtain⟨j,hj,rfl⟩:=List.mem_map.1 hx;exact Nat.le_refl _
  ·unfold jK at hx
   obtain⟨j,hj,rfl⟩:=List.mem_map.1 hx;unfold cV;split<;>simp[asR]
 ·split at hx
  ·exact xY 40 x hx
  ·unfold qb at hx
   rcases List.mem_append.1 hx with hx|hx
   ·obtain rfl:=List.mem_singleton.1 hx
    exact Nat.le_refl _
   ·split at hx
    ·obtain rfl:=List.mem_singleton.1 hx
     exact Nat.le_succ _
    ·cases hx
theorem lU{C:List Nat}:∀(L:List RS) (b:Nat),L.foldl (iW C) b<=b/\(∀x ∈ L,L.foldl (iW C) b<=dk C x)/\(L.foldl (iW C) b=b\/∃x ∈ L,L.foldl (iW C) b=dk C x)
 | [],b=>⟨Nat.le_refl _,by simp,.inl rfl⟩
 | y::L,b=>by
  obtain⟨h1,h2,h3⟩:=lU (C:=C) L (iW C b y);have hm:iW C b y<=b/\iW C b y<=dk C y/\(iW C b y=b\/iW C b y=dk C y):=by
   unfold iW;split
   ·exact⟨byO,Nat.le_refl _,.inr rfl⟩
   ·exact⟨Nat.le_refl _,byO,.inl rfl⟩
  refine⟨by simp only[List.foldl_cons];omega,fun x hx=>?_,?_⟩
  ·rcases List.mem_cons.1 hx with rfl|hx
   ·simp only[List.foldl_cons];omega
   ·exact h2 x hx
  ·rcases h3 with h3|⟨x,hx,h3⟩
   ·rcases hm.2.2 with h|h
    ·exact .inl (h3.trans h)
    ·exact .inr ⟨y,by simp,h3.trans h⟩
   ·exact .inr ⟨x,List.mem_cons_of_mem _ hx,h3⟩
theorem pf{n:RN}{C:List Nat}:du p n C<=mK p n:=(lU _ _).1
theorem oQ{n:RN}{C:List Nat}{x:RS}(h:x ∈ bW p n):du p n C<=dk C x:=(lU _ _).2.1 x h
theorem zT{n:RN}{C:List Nat}:du p n C=mK p n\/∃x ∈ bW p n,du p n C=dk C x:=(lU _ _).2.2
theorem v3(p:List UInt8)(n:RN):mK p n<=1099511627776:=by unfold mK;split<;>omega
theorem CM{C C':List Nat}(h:∀j,C'.getD j 0<=C.getD j 0)(x:RS):dk C' x<=dk C x:=by
 unfold dk;have:=h (x.to.i*128+eX x.to);omega
theorem Au{n:RN}{C C':List Nat}(h:∀j,C'.getD j 0<=C.getD j 0):du p n C'<=du p n C:=by
 rcases zT (p:=p) (n:=n) (C:=C)with e|⟨x,hx,e⟩
 ·rw[e];exact pf
 ·rw[e];exact Nat.le_trans (oQ hx) (CM h x)
theorem C9{n:RN}{C C':List Nat}(h:∀j,n.i*128<=j->C'.getD j 0=C.getD j 0):du p n C'=du p n C:=by
 unfold du;have key:∀L:List RS,(∀x ∈ L,n.i<=x.to.i)->∀b,L.foldl (iW C') b=L.foldl (iW C) b:=by
  intro L
  induction L with
  | nil=>intro _ b;rfl
  | cons x L ih=>
   intro hL b;have e:dk C' x=dk C x:=by
    unfold dk;rw[h _ (by have:=Nat.mul_le_mul_right 128 (hL x (by simp));omega)]
   have e2:iW C' b x=iW C b x:=by unfold iW;rw[e]
   rw[List.foldl_cons,List.foldl_cons,e2];exact ih (fun y hy=>hL y (List.mem_cons_of_mem _ hy)) _
 exact key _ CH _
def ny(p:List UInt8)(s:List Nat×Bool)(n:RN):List Nat×Bool:=if du p n s.1<s.1.getD (eD n) 0 then(s.1.set (eD n) (du p n s.1),true) else s
def g9(p:List UInt8)(L:List RN)(s:List Nat×Bool):List Nat×Bool:=L.foldl (ny p) s
inductive StlB (p:List UInt8) (i:Nat):List Nat->List Nat->Prop
 | done {c c':List Nat}:g9 p (fh i) (c,false)=(c',false)->StlB p i c c'
 | more {c d c':List Nat}:g9 p (fh i) (c,false)=(d,true)->StlB p i d c'->StlB p i c c'
def ot(i:Nat)(c:List Nat):Nat->List Nat
 | 0=>c
 | k+1=>(ot i c k).set (i*128+k) 1099511627776
inductive NewB (p:List UInt8):Nat->List Nat->Prop
 | start:NewB p (p.length+1) (List.replicate ((p.length+1)*128) 0)
 | step {i:Nat} {c c':List Nat}:NewB p (i+1) c->StlB p i (ot i c 128) c'->NewB p i c'
structure Stp2 (i:Nat)(s t:List Nat×Bool):Prop where
 len:t.1.length=s.1.length
 le:∀j,t.1.getD j 0<=s.1.getD j 0
 ne:∀j,(j<i*128\/(i+1)*128<=j)->t.1.getD j 0=s.1.getD j 0
 sum:t.1.sum<=s.1.sum
 fl:t.2=true->s.2=true\/t.1.sum<s.1.sum
theorem Stp2.refl(i:Nat)(s:List Nat×Bool):Stp2 i s s:=⟨rfl,fun _=>Nat.le_refl _,fun _ _=>rfl,Nat.le_refl _,fun h=>.inl h⟩
theorem Stp2.trans{i:Nat}{s t u:List Nat×Bool}(h:Stp2 i s t)(g:Stp2 i t u):Stp2 i s u:=by
 refine⟨g.len.trans h.len,fun j=>Nat.le_trans (g.le j) (h.le j),fun j hj=>(g.ne j hj).trans (h.ne j hj),Nat.le_trans g.sum h.sum,fun e=>?_⟩;rcases g.fl e with e|e
 ·rcases h.fl e with e|e
  ·exact .inl e
  ·exact .inr (Nat.lt_of_le_of_lt g.sum e)
 ·exact .inr (bc₀ e h.sum)
theorem xJ{i N:Nat}{s:List Nat×Bool}{n:RN}(hn:n.ok N)(hi:n.i=i):Stp2 i s (ny p s n):=by
 have h128:=hO hn;unfold ny;split
 ·rename_i h
  have hl:eD n<s.1.length:=by
   refine Decidable.byContradiction fun hc=>?_;rw[uX byO]at h;omega
  have hs:=vQ (x:=du p n s.1) hl;refine⟨by simp,fun j=>?_,fun j hj=>?_,by simp only;omega,fun _=>.inr (by simp only;omega)⟩
  ·simp only[dD hl];split
   ·rename_i e;subst e;omega
   ·exact Nat.le_refl _
  ·simp only[dD hl]
   rw[if_neg (by unfold eD;rw[hi];omega)]
 ·exact Stp2.refl i s
theorem l7{p:List UInt8}{i N:Nat}:∀{L:List RN} {s:List Nat×Bool},(∀n ∈ L,n.ok N/\n.i=i)->Stp2 i s (g9 p L s)
 | [],s,_=>Stp2.refl i s
 | n::L,s,h=>Stp2.trans (xJ (h n (by simp)).1 (h n (by simp)).2) (l7 (L:=L) (s:=ny p s n) fun m hm=>h m (List.mem_cons_of_mem _ hm))
def UpB(p:List UInt8)(N i:Nat)(c:List Nat):Prop:=c.length=(N+1)*128/\∀n:RN,n.ok N->n.i=i->du p n c<=c.getD (eD n) 0
theorem IX{i N:Nat}{s:List Nat×Bool}{n:RN}(h:UpB p N i s.1)(hn:n.ok N)(hi:n.i=i):UpB p N i (ny p s n).1:=by
 have hst:=xJ (p:=p) (s:=s) hn hi;refine⟨hst.len.trans h.1,fun n' hn' hi'=>?_⟩;have hm:=Au (p:=p) (n:=n') hst.le;have h0:=h.2 n' hn' hi';unfold ny at hm ⊢;split
 ·rename_i hlt
  rw[if_pos hlt]at hm;have hl:eD n<s.1.length:=by rw[h.1];exact zu hn
  simp only[dD hl];split
  ·rename_i e
   obtain rfl:=Gy hn' hn e;exact hm
  ·exact Nat.le_trans hm h0
 ·exact h0
theorem xC{p:List UInt8}{i N:Nat}:∀{L:List RN} {s:List Nat×Bool},(∀n ∈ L,n.ok N/\n.i=i)->UpB p N i s.1->UpB p N i (g9 p L s).1
 | [],s,_,h=>h
 | n::L,s,hL,h=>xC (L:=L) (s:=ny p s n) (fun m hm=>hL m (List.mem_cons_of_mem _ hm)) (IX h (hL n (by simp)).1 (hL n (by simp)).2)
theorem By{s:List Nat×Bool}{n:RN}(h:(ny p s n).2=false):ny p s n=s/\¬ du p n s.1<s.1.getD (eD n) 0:=by
 unfold ny at h ⊢;split
 ·rename_i h1;rw[if_pos h1]at h;cases h
 ·rename_i h1;exact⟨rfl,h1⟩
theorem rU{p:List UInt8}:∀{L:List RN} {s:List Nat×Bool},(g9 p L s).2=false->g9 p L s=s/\∀n ∈ L,¬ du p n s.1<s.1.getD (eD n) 0
 | [],s,h=>⟨rfl,by simp⟩
 | n::L,s,h=>by
  have h0:g9 p (n::L) s=g9 p L (ny p s n):=rfl;rw[h0]at h ⊢;obtain⟨e,f⟩:=rU (L:=L) h;rw[e]at h;obtain⟨e1,f1⟩:=By h;rw[e,e1];rw[e1]at f;refine⟨rfl,fun o ho=>?_⟩;rcases List.mem_cons.1 ho with rfl|ho
  ·exact f1
  ·exact f o ho
theorem F0{i:Nat}(hi:i<=p.length){c c':List Nat}(h:StlB p i c c'):UpB p p.length i c->(c'.length=c.length/\(∀j,c'.getD j 0<=c.getD j 0)/\(∀j,(j<i*128\/(i+1)*128<=j)->c'.getD j 0=c.getD j 0))/\∀n:RN,n.ok p.length->n.i=i->c'.getD (eD n) 0=du p n c':=by
 have hnd:=tX hi
 induction h with
 | @done c c' h=>
  intro hu;have hst:=l7 (p:=p) (s:=(c,false)) hnd;have e:=rU (p:=p) (L:=fh i) (s:=(c,false)) (by rw[h]);rw[h]at e;have ec:c'=c:=congrArg Prod.fst e.1;subst ec;refine⟨⟨rfl,fun _=>Nat.le_refl _,fun _ _=>rfl⟩,fun n hn hni=>?_⟩;have h1:=e.2 n (by rw[<-hni];exact yh hn);have h2:=hu.2 n hn hni;simp only at h1;omega
 | @more c d c' h _ ih=>
  intro hu;have hst:=l7 (p:=p) (s:=(c,false)) hnd;have hup:=xC (p:=p) (s:=(c,false)) hnd hu;rw[h]at hst hup;obtain⟨⟨g1,g2,g3⟩,g4⟩:=ih hup;exact⟨⟨g1.trans hst.len,fun j=>Nat.le_trans (g2 j) (hst.le j),fun j hj=>(g3 j hj).trans (hst.ne j hj)⟩,g4⟩
theorem xM{i:Nat}{c:List Nat}(hl:(i+1)*128<=c.length):∀k,k<=128->(ot i c k).length=c.length/\∀j,(ot i c k).getD j 0=if i*128<=j/\j<i*128+k then 1099511627776 else c.getD j 0
 | 0,_=>⟨rfl,fun j=>by rw[if_neg byO];rfl⟩
 | k+1,h=>by
  obtain⟨h1,h2⟩:=xM (i:=i) hl k byO;refine⟨by simp[ot,h1],fun j=>?_⟩;simp only[ot];rw[dD byO,h2];by_cases e:j=i*128+k
  ·rw[if_pos e,if_pos byO]
  ·rw[if_neg e]
   by_cases e2:i*128<=j/\j<i*128+k
   ·rw[if_pos e2,if_pos byO]
   ·rw[if_neg e2,if_neg byO]
theorem Hl{a:Nat}{c:List Nat}(h:NewB p a c):a<=p.length+1:=by
 induction h with
 | start=>exact Nat.le_refl _
 | step _ _ ih=>omega
theorem Hm{a:Nat}{c:List Nat}(h:NewB p a c):(c.length=(p.length+1)*128/\∀j,c.getD j 0<=1099511627776)/\∀n:RN,n.ok p.length->a<=n.i->c.getD (eD n) 0=du p n c:=by
 induction h with
 | start=>exact⟨⟨by simp,fun j=>by simp only[au₀,List.getElem?_replicate];split<;>simp⟩,fun n hn h1=>by have:=hn.i;omega⟩
 | @step a c c' hn hs ih=>
  obtain⟨⟨hl,hle⟩,hr⟩:=ih;have ha:=Hl hn;have hal:(a+1)*128<=c.length:=by
   rw[hl];exact Nat.mul_le_mul_right 128 byO
  obtain⟨g1,g2⟩:=xM hal 128 (Nat.le_refl _);have hup:UpB p p.length a (ot a c 128):=by
   refine⟨g1.trans hl,fun n hn hi=>?_⟩;rw[g2,if_pos (by have:=hO hn;unfold eD;rw[hi];omega)];exact Nat.le_trans pf (v3 _ _)
  obtain⟨⟨f1,f2,f3⟩,f4⟩:=F0 byO hs hup;refine⟨⟨by rw[f1,g1,hl],fun j=>?_⟩,fun n hn h1=>?_⟩
  ·refine Nat.le_trans (f2 j) ?_
   rw[g2];split
   ·exact Nat.le_refl _
   ·exact hle j
  ·by_cases e:n.i=a
   ·exact f4 n hn e
   ·have hag:∀j,n.i*128<=j->c'.getD j 0=c.getD j 0:=by
     intro j hj;have hj2:(a+1)*128<=j:=Nat.le_trans (Nat.mul_le_mul_right 128 byO) hj;rw[f3 j (.inr hj2),g2,if_neg byO]
    rw[C9 hag,hag _ (by unfold eD;omega)];exact hr n hn byO
structure SolR (p:List UInt8)(c:List Nat):Prop where
 len:c.length=(p.length+1)*128
 le:∀j,c.getD j 0<=1099511627776
 eq:∀n:RN,n.ok p.length->c.getD (eD n) 0=du p n c
theorem E0{c:List Nat}(h:NewB p 0 c):SolR p c:=by
 obtain⟨⟨h1,h3⟩,h2⟩:=Hm h;exact⟨h1,h3,fun n hn=>h2 n hn (Nat.zero_le _)⟩
theorem Ft(n:Nat):bA (List.replicate 128 (Value.int .i64 0)) n=uN (List.replicate (n*128) 0):=by
 have:bA (List.replicate 128 (Value.int .i64 0)) n=List.replicate (n*128) (Value.int .i64 0):=by
  unfold bA
  induction n with
  | zero=>rfl
  | succ n ih=>rw[List.replicate_succ,List.flatten_cons,ih,List.replicate_append_replicate,Nat.succ_mul,Nat.add_comm]
 rw[this,uN,List.map_replicate];rfl
structure CoW (A H:Heap)(kb:Nat)(v:Value)(p:List UInt8)(C:List Nat):Prop where
 s:CoH H kb v p C
 pl:SlU A v p
 ext:Ext A H
 kbA:A.length<=kb
theorem CoW.mono{A H H':Heap}{kb:Nat}{v:Value}{p:List UInt8}{C:List Nat}(h:CoW A H kb v p C)(e:Ext H H'):CoW A H' kb v p C:=
 ⟨h.s.ext e,h.pl,h.ext.trans e,h.kbA⟩
theorem CoW.set{A H H':Heap}{kb i x:Nat}{v:Value}{p:List UInt8}{C:List Nat}(h:CoW A H kb v p C)(hk:Keep kb H H')(hg:H'.get kb=some (uN (C.set i x)))(hx:x<=1099511627776):CoW A H' kb v p (C.set i x):=by
 have hA:=hk.ext h.ext h.kbA;refine⟨⟨hg,h.pl.mono hA,by simpa using h.s.len,h.s.hi,fun j=>?_⟩,h.pl,hA,h.kbA⟩;by_cases hi:i<C.length
 ·rw[dD hi];split
  ·exact hx
  ·exact h.s.le j
 ·rw[List.set_eq_of_length_le byO];exact h.s.le j
theorem yg(i:Nat):(fh i).length<=100:=by
 have:=ue i 2;have:=AO i 4;unfold fh;simp;omega
section
variable {lo:Nat}{H:Heap}{v:Value}{p:List UInt8}
open XYe
theorem LW(hp:SlU H v p)(hl:p.length<=4096)(hlo:lo<=H.length):Ev cp lo 49 [v] H (fun r H'=>Ext H H'/\∃C,NewB p 0 C/\r=coV H.length p/\CoH H' H.length v p C):=by
 obtain⟨ad,c,ev⟩:=hp.len;subst ev;have htn:((p.length:Int)+1).toNat=p.length+1:=byO;refine stG rfl rfl ?_;unfold Nu;simp only[kB,aC];refine aE ?_;clear htn;generalize hC:uN (List.replicate ((p.length+1)*128) 0)=C;have hz:=(Ft (p.length+1)).trans hC;generalize hZ:bA _ (p.length+1)=Z;have hzz:Z=C:=hZ.symm.trans hz;subst hzz;clear hz hZ;have hxb:Ext H (H++[some Z]):=Ext.app _ _;have hg0:(H++[some Z]).get H.length=some Z:=aG;change wpS cp lo _ _ _ (H++[some Z]);generalize H++[some Z]=H0 at hxb hg0;have hs0:CoW H H0 H.length (.slice ad p.length c) p (List.replicate ((p.length+1)*128) 0):=by
  refine⟨⟨by rw[hC];exact hg0,hp.mono hxb,by simp,hl,fun i=>?_⟩,hp,hxb,Nat.le_refl _⟩;simp only[au₀,List.getElem?_replicate];split<;>simp
 clear hg0 hC;have hn0:NewB p (p.length+1) (List.replicate ((p.length+1)*128) 0):=.start;generalize List.replicate ((p.length+1)*128) 0=cs at hs0 hn0;refine aa (fun k S H'=>(∃cs,NewB p (p.length+1-k) cs/\CoW H H' H.length (.slice ad p.length c) p cs)/\∃(z:Nat->Value),S=[.slice ad p.length c,z 1,coV H.length p,.int .i64 ((p.length:Int)-(k:Nat)),z 4,z 5,z 6,z 7,z 8,z 9,z 10,z 11,z 12,z 13,z 14,z 15,z 16,z 17]) (p.length+1) ⟨⟨cs,hn0,hs0⟩,aJ (by simp)⟩ ?_ ?_ ?_
 ·rintro k S H' hk ⟨h1,z,rfl⟩
  exact⟨decide ((p.length:Int)-(k:Nat)>=0),by simp(disch:=try exact dO)only[evB,xtr,Nat.reduceAdd,Nat.reduceBEq,Int.reduceToNat, *],by simp;omega⟩
 ·rintro k S H1 hk ⟨⟨cs,hn,hs⟩,z,rfl⟩
  obtain⟨a,ha,hak⟩:∃a:Nat,(p.length:Int)-(k:Nat)=(a:Nat)/\p.length+1-k=a+1/\p.length+1-(k+1)=a/\a<=p.length:=⟨p.length-k,byO,byO⟩;have ha2:(p.length:Int)-((k+1:Nat):Nat)=(a:Nat)-1:=byO;rw[hak.2.1,ha2,ha];rw[hak.1]at hn;obtain⟨_,_,hap⟩:=hak;clear ha2 ha hs0 hn0;replace hn:False\/_:=.inr hn;have hx1:=hs.ext;have hl1:=hx1.1;have hkl1:=Heap.get_lt hs.s.c;(try simp only[aC]);refine bR ?_;refine aB (M5 (lo:=lo) (i:=a) byO byO) ?_;rintro r H2 ⟨hx2,nb,hnb,ho⟩;have hnd:=tX (N:=p.length) hap;have hLl:=yg a;obtain⟨aw,rfl⟩:=ho.len byO oA;have hs2:=hs.mono hx2;have hl2:=hx2.1;obtain⟨L,hL⟩:∃L,False\/fh a=L:=⟨_,.inr rfl⟩;rw[hL.resolve_left id]at ho hnd hLl ⊢;clear hs;refine aE ?_;refine eS (fun S' H'=>(Keep H.length H2 H'/\CoW H H' H.length (.slice ad p.length c) p (ot a cs 128))/\∃(z:Nat->Value),S'=[.slice ad p.length c,z 1,coV H.length p,aA a,.slice aw L.length L.length,z 5,z 6,z 7,z 8,z 9,z 10,z 11,z 12,z 13,z 14,z 15,z 16,z 17]) ?_ ?_
  ·refine aa (fun j S H'=>(Keep H.length H2 H'/\CoW H H' H.length (.slice ad p.length c) p (ot a cs j))/\∃(z:Nat->Value),S=[.slice ad p.length c,z 1,coV H.length p,aA a,.slice aw L.length L.length,.int .i64 (j:Nat),z 6,z 7,z 8,z 9,z 10,z 11,z 12,z 13,z 14,z 15,z 16,z 17]) 128 ⟨⟨Ext.keep (Ext.refl _),hs2⟩,aJ rfl⟩ ?_ ?_ ?_
   ·rintro j S H' hj ⟨h1,z,rfl⟩
    exact⟨decide ((j:Int)<128),by simp(disch:=try exact dO)only[evB,xtr,Nat.reduceAdd,Nat.reduceBEq,Int.reduceToNat, *],by simp;omega⟩
   ·rintro j S H3 hj ⟨⟨hk3,hs3⟩,z,rfl⟩
    have hr:ot a cs (j+1)=(ot a cs j).set (a*128+j) 1099511627776:=rfl;rw[hr];clear hr hs2;generalize ot a cs j=ss at hs3 ⊢;have hgc:=hs3.s.c;have hll:=Heap.get_lt hgc;have hlen:=hs3.s.len;have hidx:a*128+j<ss.length:=byO;have hul:(uN ss).length<=ss.length/\ss.length<=(uN ss).length:=by simp
    have hset:False\/(uN ss).set (a*128+j) (aA 1099511627776)=uN (ss.set (a*128+j) 1099511627776):=.inr (by simp[uN,List.map_set]);generalize uN ss=Y at hgc hul hset;replace hlen:ss.length<=(p.length+1)*128/\(p.length+1)*128<=ss.length:=byO;refine aE ?_;have hk7:Keep H.length H3 (List.set H3 H.length (some (Y.set (a*128+j) (Value.int .i64 1099511627776)))):=keepSet;have hg7:Heap.get (List.set H3 H.length (some (Y.set (a*128+j) (Value.int .i64 1099511627776)))) H.length=some (Y.set (a*128+j) (Value.int .i64 1099511627776)):=aF byO;exact⟨⟨an hk3 (.inl rfl) hk7,hs3.set hk7 (by rw[hg7];exact congrArg some (hset.resolve_left id)) byO⟩,aJ ncM⟩
   ·rintro S H3 ⟨h3,z,rfl⟩
    (try simp only[aC]);exact⟨h3,aJ rfl⟩
  clear hs2;rintro S H3 ⟨⟨hk3,hs3⟩,z,rfl⟩;obtain⟨c0,hc0⟩:∃c0,False\/ot a cs 128=c0:=⟨_,.inr rfl⟩;rw[hc0.resolve_left id]at hs3;refine aE ?_;refine bH (fun m S H'=>∃(c1:List Nat) (t:Bool),(Keep H.length H2 H'/\CoW H H' H.length (.slice ad p.length c) p c1)/\((t=true/\m=c1.sum+1/\∀c',StlB p a c1 c'->StlB p a c0 c')\/(t=false/\m=0/\StlB p a c0 c1))/\∃(z:Nat->Value),S=[.slice ad p.length c,z 1,coV H.length p,aA a,.slice aw L.length L.length,z 5,.bool t,z 7,z 8,z 9,z 10,z 11,z 12,z 13,z 14,z 15,z 16,z 17]) (c0.sum+1) ⟨c0,true,⟨hk3,hs3⟩,.inl ⟨rfl,rfl,fun _ h=>h⟩,aJ rfl⟩ ?_;clear hs3 hk3;rintro m S H3 ⟨c1,t,⟨hk3,hs3⟩,hcase,z,rfl⟩;rcases hcase with ⟨rfl,hm,hst⟩|⟨rfl,hm,hst⟩
  ·replace hst:False\/_:=.inr hst
   replace hm:m<=c1.sum+1/\c1.sum+1<=m:=byO;(try simp only[aC]);refine aN ?_ ?_<;>intro h
   ·clear h
    refine aE ?_;refine aa (fun k S H'=>(Keep H.length H2 H'/\CoW H H' H.length (.slice ad p.length c) p (g9 p (L.take k) (c1,false)).1)/\∃(z:Nat->Value),S=[.slice ad p.length c,z 1,coV H.length p,aA a,.slice aw L.length L.length,z 5,.bool (g9 p (L.take k) (c1,false)).2,.int .i64 (k:Nat),z 8,z 9,z 10,z 11,z 12,z 13,z 14,z 15,z 16,z 17]) L.length ⟨⟨hk3,hs3⟩,aJ rfl⟩ ?_ ?_ ?_
    ·rintro k S H' hk ⟨h1,z,rfl⟩
     exact⟨decide ((k:Int)<(L.length:Nat)),by simp(disch:=try exact dO)only[evB,xtr,Nat.reduceAdd,Nat.reduceBEq,Int.reduceToNat, *],by simp⟩
    ·rintro k S H4 hk ⟨⟨hk4,hs4⟩,z,rfl⟩
     have hr:g9 p (L.take (k+1)) (c1,false)=ny p (g9 p (L.take k) (c1,false)) L[k]:=by
      unfold g9;rw[List.take_succ_eq_append_getElem hk,List.foldl_append];rfl
     rw[hr];clear hr hs3 hk3;have ho4:=ho.keep hk4 byO;obtain⟨p4,o4,X4,i4,g4,l4,e4⟩:=ho4.at byO oA hk;obtain⟨hok,hni⟩:=hnd _ (List.getElem_mem hk);generalize g9 p (L.take k) (c1,false)=s4 at hs4 ⊢;generalize L[k]=n at e4 hok hni ⊢;replace hni:n.i<=a/\a<=n.i:=byO;replace e4:(X4.drop o4).take 5=[aA n.i,aA n.m,aA n.ph,aA n.s,.bool n.u]:=e4;have hl4:=hk4.len;replace i4:∀G,aH (.iAddr 5) [.slice aw L.length L.length,.int .i64 (k:Nat)] G=some (.pointer (some ⟨p4,o4,none⟩)):=fun G=>by
      clear ho4 ho;rcases aw with _|⟨b0,o0,_|s0⟩<;>exact i4
     refine aE ?_;refine bR ?_;refine aB (OT (lo:=lo) (n:=n) hs4.s hok byO) ?_;rintro r H5 ⟨hx5,rfl⟩;have hs5:=hs4.mono hx5;have hk5:Keep H.length H4 H5:=Ext.keep hx5;have hl5:=hx5.1;replace g4:=hx5.get g4;clear ho4;have hrel:ny p s4 n=if du p n s4.1<s4.1.getD (a*128+eX n) 0 then(s4.1.set (a*128+eX n) (du p n s4.1),true) else s4:=by
      have e:n.i=a:=byO;unfold ny eD;rw[e]
     replace hrel:False\/_:=.inr hrel;have hbl:du p n s4.1<=1099511627776:=Nat.le_trans pf (v3 _ _);obtain⟨ss,bb⟩:=s4;simp only at hs4 hs5 hrel hbl ⊢;have hnl:=hO hok;have hgc:=hs5.s.c;have hlen:=hs5.s.len;have hidx:a*128+eX n<ss.length:=byO;have hat:=mW hidx;have hle:=hs5.s.le (a*128+eX n);have hul:(uN ss).length<=ss.length/\ss.length<=(uN ss).length:=by simp
     have hset:False\/∀y,(uN ss).set (a*128+eX n) (aA y)=uN (ss.set (a*128+eX n) y):=.inr (fun y=>by simp[uN,List.map_set]);have hno:=fun H (h:H5.length<=H.length)=>Hn (lo:=lo) (H:=H) hok byO;have hno5:=hno H5 (Nat.le_refl _);generalize du p n ss=x at hrel hbl ⊢;generalize ss.getD (a*128+eX n) 0=y at hat hrel hle;generalize uN ss=Y at hgc hat hul hset;replace hlen:ss.length<=(p.length+1)*128/\(p.length+1)*128<=ss.length:=byO;generalize eX n=nx at hat hidx hnl hno5 hno hrel hset;refine aE ?_;refine bR ?_;refine fD (first:=#[]) (cap:=#[]) (args:=[rnV n]) hno5 ?_;rintro r H6 ⟨hx6,rfl⟩;have hs6:=hs5.mono hx6;have hk6:Keep H.length H4 H6:=Ext.keep (hx5.trans hx6);have hl6:=hx6.1;replace g4:=hx6.get g4;replace hgc:=hx6.get hgc;have hkl6:=Heap.get_lt hgc;by_cases hxy:x<y
     ·have hd:decide ((x:Int)<(y:Nat))=true:=decide_eq_true byO
      have e:=hrel.resolve_left id;rw[if_pos hxy]at e;rw[e];clear e hrel;(try simp only[aC]);refine aN ?_ ?_<;>intro h
      ·clear h hd
       (try simp only[aC]);refine bR ?_;refine fD (first:=#[]) (cap:=#[]) (args:=[rnV n]) (hno H6 byO) ?_;rintro r H7 ⟨hx7,rfl⟩;have hs7:=hs6.mono hx7;have hk7:Keep H.length H4 H7:=an hk6 (.inl rfl) (Ext.keep hx7);replace hgc:=hx7.get hgc;have hkl7:=Heap.get_lt hgc;clear hno hno5;refine aE ?_;have e2:=hset.resolve_left id x;have hk8:Keep H.length H7 (List.set H7 H.length (some (Y.set (a*128+nx) (Value.int .i64 (x:Nat))))):=keepSet;have hg8:Heap.get (List.set H7 H.length (some (Y.set (a*128+nx) (Value.int .i64 (x:Nat))))) H.length=some (Y.set (a*128+nx) (Value.int .i64 (x:Nat))):=aF byO;exact⟨⟨an hk4 (.inl rfl) (an hk7 (.inl rfl) hk8),hs7.set hk8 (by rw[hg8];exact congrArg some e2) byO⟩,aJ ncM⟩
      ·simp at h
     ·have hd:decide ((x:Int)<(y:Nat))=false:=decide_eq_false byO
      have e:=hrel.resolve_left id;rw[if_neg hxy]at e;rw[e];clear e hrel;(try simp only[aC]);refine aN ?_ ?_<;>intro h
      ·simp at h
      ·clear h hd
       refine aE ?_;exact⟨⟨an hk4 (.inl rfl) hk6,hs6⟩,aJ ncM⟩
    ·rintro S H4 ⟨⟨hk4,hs4⟩,z,rfl⟩
     rw[List.take_length]at hs4 ⊢;have hrow:=l7 (p:=p) (s:=(c1,false)) hnd;obtain⟨d,t,hdt⟩:∃d t,g9 p L (c1,false)=(d,t):=⟨_,_,rfl⟩;rw[hdt]at hs4 hrow ⊢;clear hs3 hk3;have hdt2:False\/g9 p (fh a) (c1,false)=(d,t):=.inr (by rw[hL.resolve_left id];exact hdt);clear hdt;(try simp only[aC]);refine⟨if t then d.sum+1 else 0,?_,d,t,⟨hk4,hs4⟩,?_,aJ rfl⟩
     ·cases t with
      | true=>
       rcases hrow.fl rfl with h|h
       ·cases h
       ·simp only at h ⊢;simp;omega
      | false=>simp;omega
     ·cases t with
      | true=>exact .inl ⟨rfl,rfl,fun c' h=>hst.resolve_left id c' (.more (hdt2.resolve_left id) h)⟩
      | false=>exact .inr ⟨rfl,rfl,hst.resolve_left id _ (.done (hdt2.resolve_left id))⟩
   ·cases h
  ·replace hst:False\/_:=.inr hst
   replace hm:m<=0:=byO;(try simp only[aC]);refine aN ?_ ?_<;>intro h
   ·cases h
   ·refine aE ?_
    refine⟨⟨c1,.step (hn.resolve_left id) ?_,hs3⟩,aJ ncM⟩;rw[hc0.resolve_left id];exact hst.resolve_left id
 ·rintro S H1 ⟨⟨cs,hn,hs⟩,z,rfl⟩
  rw[Nat.sub_self]at hn;have hx:=hs.ext;replace hn:False\/_:=.inr hn;refine aE ?_;refine dB ?_;exact⟨hx,cs,hn.resolve_left id,rfl,hs.s⟩
end
def chS(C:List Nat)(t:Nat)(s:RS×Bool)(x:RS):RS×Bool:=if dk C x=t/\(s.2=false\/dG x s.1=true) then(x,true) else s
def fV:RS:=⟨0,0,0,0,asR 0⟩
def dQ(p:List UInt8)(n:RN)(C:List Nat):RS:=((bW p n).foldl (chS C (C.getD (eD n) 0)) (fV,false)).1
section
variable {lo:Nat}{H:Heap}{v:Value}{p:List UInt8}
open XYe
theorem GM{n:RN}{kb:Nat}{C:List Nat}(hs:CoH H kb v p C)(hn:n.ok p.length)(hlo:lo<=H.length):Ev cp lo 50 [v,rnV n,coV kb p] H (fun r H'=>Ext H H'/\r=rsV (dQ p n C)):=by
 obtain⟨ad,c,ev⟩:=hs.pl.len;rw[ev]at hs ⊢;clear ev;have h1:=hn.i;have hl:=hs.hi;refine stG rfl rfl ?_;unfold Nv;simp only[kB,aC];refine aE ?_;have hxb:Ext H (H++[some (rnC n),some (rsC fV)]):=Ext.app _ _;have hgb:(H++[some (rnC n),some (rsC fV)]).get H.length=some [aA n.i,aA n.m,aA n.ph,aA n.s,.bool n.u]:=aG;have hgz:(H++[some (rnC n),some (rsC fV)]).get (H.length+1)=some (rsC fV):=by rw[bL];rfl
 change wpS cp lo _ _ _ (H++[some (rnC n),some (rsC fV)]);generalize H++[some (rnC n),some (rsC fV)]=Hb at hxb hgb hgz;have hlb:=Heap.get_lt hgz;refine bR ?_;refine aB (FZ (n:=n) (hs.ext hxb).pl hn hl byO) ?_;rintro r H1 ⟨hx1,b,hb,ho⟩;have hok:=lu hn;have hsl:=sB p n;unfold dQ;generalize bW p n=L at ho hok hsl ⊢;obtain⟨aw,rfl⟩:=ho.len byO oC;have hs1:=hs.ext (hxb.trans hx1);have hx01:=hxb.trans hx1;have hgb1:=hx1.get hgb;have hgz1:=hx1.get hgz;have hl1:=hx1.1;have hnl:=hO hn;have hidn:n.i*128+eX n<C.length:=by rw[hs.len];exact zu hn
 obtain⟨cn,hcn⟩:∃y,False\/C.getD (eD n) 0=y:=⟨_,.inr rfl⟩;have hatn:=mW hidn;have hcn2:C.getD (n.i*128+eX n) 0=cn:=hcn.resolve_left id;rw[hcn2]at hatn;rw[hcn.resolve_left id];clear hcn hcn2;refine aE ?_;have hxc:Ext H1 (H1++[some (rsC fV)]):=Ext.app _ _;have hgc:(H1++[some (rsC fV)]).get H1.length=some (rsC fV):=aG;change wpS cp lo _ _ _ (H1++[some (rsC fV)]);generalize H1++[some (rsC fV)]=H2 at hxc hgc;have hnoN:=fun H:Heap=>Hn (lo:=H.length) (H:=H) hn byO;refine aa (fun k S H'=>(Keep H1.length H2 H'/\H'.get H1.length=some (rsC ((L.take k).foldl (chS C cn) (fV,false)).1))/\∃(z:Nat->Value),S=[.slice ad p.length c,z 1,coV kb p,ptr H.length,ptr (H.length+1),.slice aw L.length L.length,ptr H1.length,.bool ((L.take k).foldl (chS C cn) (fV,false)).2,.int .i64 (k:Nat),z 9,z 10,z 11,z 12,z 13,z 14,z 15,z 16,z 17,z 18,z 19,z 20]) L.length ⟨⟨Ext.keep (Ext.refl _),hgc⟩,aJ rfl⟩ ?_ ?_ ?_
 ·rintro k S H' hk ⟨_,z,rfl⟩
  exact⟨decide ((k:Int)<(L.length:Nat)),by simp(disch:=try exact dO)only[evB,xtr,Nat.reduceAdd,Nat.reduceBEq,Int.reduceToNat, *],by simp⟩
 ·rintro k S H3 hk ⟨⟨hk3,hg3⟩,z,rfl⟩
  clear hgc hgb hgz;have hx3:=hk3.ext hxc (Nat.le_refl _);have hl3:=hx3.1;have hs3:=hs1.ext hx3;have ho3:=ho.mono hx3;have hgb3:=hx3.get hgb1;obtain⟨p4,o4,X4,i4,g4,l4,e4⟩:=ho3.at byO oC hk;replace i4:∀G,aH (.iAddr 9) [.slice aw L.length L.length,.int .i64 (k:Nat)] G=some (.pointer (some ⟨p4,o4,none⟩)):=fun G=>by
   clear ho3 ho;rcases aw with _|⟨b0,o0,_|s0⟩<;>exact i4
  have hoo:=hok _ (List.getElem_mem hk);have hr:(L.take (k+1)).foldl (chS C cn) (fV,false)=chS C cn ((L.take k).foldl (chS C cn) (fV,false)) L[k]:=by
   rw[List.take_succ_eq_append_getElem hk,List.foldl_append];rfl
  rw[hr];clear hr;generalize (L.take k).foldl (chS C cn) (fV,false)=s at hg3 ⊢;generalize L[k]=x at e4 hoo ⊢;have hj:∀j,j<9->X4[o4+j]?=(rsC x)[j]?:=fun j hj=>by rw[<-e4,List.getElem?_take,if_pos hj,List.getElem?_drop]
  have f3:X4[o4+3]?=some (aA x.c):=hj 3 byO;have f4:X4[o4+4]?=some (aA x.to.i):=hj 4 byO;have f5:(X4.drop (o4+4)).take 5=rnC x.to:=by
   have h5:(X4.drop (o4+4)).take 5=((X4.drop o4).take 9).drop 4:=by rw[List.drop_take,List.drop_drop]
   rw[h5,e4];rfl
  clear hj;have hil:=hoo.to.i;have hnl2:=hO hoo.to;have hxc2:=hoo.c;have hgC:=hs3.c;have hidx:x.to.i*128+eX x.to<C.length:=by have:=hs3.len;omega
  have hat:=mW hidx;have hle:=hs3.le (x.to.i*128+eX x.to);have hul:(uN C).length<=C.length/\C.length<=(uN C).length:=by simp
  have hlen:C.length<=(p.length+1)*128/\(p.length+1)*128<=C.length:=by have:=hs3.len;omega
  have hm2:chS C cn s x=if x.c+C.getD (x.to.i*128+eX x.to) 0=cn/\(s.2=false\/dG x s.1=true) then(x,true) else s:=rfl
  rw[hm2];clear hm2;have hno:=Hn (lo:=H3.length) (H:=H3) hoo.to byO;generalize C.getD (x.to.i*128+eX x.to) 0=y at hat hle ⊢;obtain⟨U,hU⟩:∃U,False\/uN C=U:=⟨_,.inr rfl⟩;have hatn':=hatn;rw[hU.resolve_left id]at hgC hat hul hatn';generalize eX x.to=nx at hat hidx hnl2 hno;generalize eX n=nn at hatn' hidn hnl hnoN;clear hatn;obtain⟨so,sb⟩:=s;simp only at hg3 ⊢;(try simp only[aC]);refine aW (t:=true) dP gW iw (fun _=>⟨_,dP,?_⟩) (fun h=>by cases h);refine cU hno ?_;rintro r H4 ⟨hx4,rfl⟩;have hl4:=hx4.1;replace hgC:=hx4.get hgC;replace hgb3:=hx4.get hgb3;(try simp only[aC]);refine aW (t:=true) dP gW iw (fun _=>⟨_,dP,?_⟩) (fun h=>by cases h);refine cU (hnoN H4) ?_;rintro r H5 ⟨hx5,rfl⟩;have hx35:=hx4.trans hx5;have hk5:Keep H1.length H2 H5:=an hk3 (.inl rfl) (Ext.keep hx35);have hl5:=hx35.1;replace g4:=hx35.get g4;replace hg3:=hx35.get hg3;replace hgC:=hx5.get hgC;have hgl5:=Heap.get_lt hg3;clear hno hnoN hgb3;obtain⟨tt,htt⟩:∃tt,(x.c:Int)+(y:Nat)=((tt:Nat):Int)/\x.c+y=tt/\tt<=1099511629776:=⟨x.c+y,byO,rfl,byO⟩;obtain⟨ht1,ht2,ht3⟩:=htt;rw[ht2];clear ht2;have hrw:rsC x=[aA x.w,.int .i64 x.s,.int .i64 x.t,aA x.c,aA x.to.i,aA x.to.m,aA x.to.ph,aA x.to.s,.bool x.to.u]:=rfl;have hset:List.set H5 H1.length (some (rsC x))=List.set H5 H1.length (some (rsC x)):=rfl;have hkk:Keep H1.length H2 (List.set H5 H1.length (some (rsC x))):=an hk5 (.inl rfl) keepSet;have hgg:Heap.get (List.set H5 H1.length (some (rsC x))) H1.length=some (rsC x):=aF byO;clear hset hrw;(try simp only[aC]);by_cases ht:tt=cn
  ·have hd:decide ((tt:Int)=(cn:Nat))=true:=decide_eq_true byO
   have hdn:((tt:Int)=(cn:Nat)):=byO;cases sb with
   | false=>
    rw[if_pos ⟨ht,.inl rfl⟩];replace ht:tt<=cn/\cn<=tt:=byO;refine aW (t:=false) dP gW iw (fun h=>by cases h) (fun _=>?_);(try simp only[aC]);refine aN ?_ ?_<;>intro h
    ·clear h
     refine aE ?_;exact⟨⟨hkk,hgg⟩,aJ ncM⟩
    ·cases h
   | true=>
    have hor:(tt=cn/\(true=false\/dG x so=true))↔dG x so=true:=by simp[ht]
    simp only[hor];clear hor;replace ht:tt<=cn/\cn<=tt:=byO;refine aW (t:=true) dP gW iw (fun _=>⟨_,dP,?_⟩) (fun h=>by cases h);refine fD (first:=#[]) (cap:=#[]) (args:=[rsV x,rsV so]) (Oq (lo:=lo) (H:=H5)) ?_;rintro r H6 ⟨hx6,rfl⟩;replace g4:=hx6.get g4;replace hg3:=hx6.get hg3;have hgl6:=Heap.get_lt hg3;have hkk6:Keep H1.length H2 (List.set H6 H1.length (some (rsC x))):=an (an hk5 (.inl rfl) (Ext.keep hx6)) (.inl rfl) keepSet;have hgg6:Heap.get (List.set H6 H1.length (some (rsC x))) H1.length=some (rsC x):=aF byO;have hk6:Keep H1.length H2 H6:=an hk5 (.inl rfl) (Ext.keep hx6);cases dG x so with
    | true=>
     rw[if_pos rfl];(try simp only[aC]);refine aN ?_ ?_<;>intro h
     ·clear h
      refine aE ?_;exact⟨⟨hkk6,hgg6⟩,aJ ncM⟩
     ·cases h
    | false=>
     rw[if_neg (by simp)];(try simp only[aC]);refine aN ?_ ?_<;>intro h
     ·cases h
     ·refine aE ?_
      exact⟨⟨hk6,hg3⟩,aJ ncM⟩
  ·have hd:decide ((tt:Int)=(cn:Nat))=false:=decide_eq_false byO
   rw[if_neg (fun h=>ht h.1)];refine aW (t:=false) dP gW iw (fun h=>by cases h) (fun _=>?_);(try simp only[aC]);refine aN ?_ ?_<;>intro h
   ·simp at h
   ·clear h
    refine aE ?_;exact⟨⟨hk5,hg3⟩,aJ ncM⟩
 ·rintro S H3 ⟨⟨hk3,hg3⟩,z,rfl⟩
  rw[List.take_length]at hg3 ⊢;generalize (L.foldl (chS C cn) (fV,false)).1=o at hg3 ⊢;have hz3:=hk3.get (hxc.get hgz1) byO;have hlz:=Heap.get_lt hz3;have hx3:=hk3.ext (hx01.trans hxc) byO;refine aE ?_;refine dB ?_;exact⟨keepSet.ext hx3 byO,rfl⟩
end
def iJ(l:List Nat)(k:Nat):Nat:=l.getD (k/6) 0/2^(5-k%6)%2
def pkR(l:List Nat):Nat->List Nat
 | 0=>List.replicate ((6*l.length+7)/8) 0
 | k+1=>if iJ l k=1 then(pkR l k).set (k/8) ((pkR l k).getD (k/8) 0+2^(7-k%8)) else pkR l k
def cE(l:List Nat):List Nat:=pkR l (6*l.length)
theorem qB(l:List Nat):∀k,(pkR l k).length=(6*l.length+7)/8
 | 0=>by simp[pkR]
 | k+1=>by unfold pkR;split<;>simp[qB l k]
theorem A5{d:Nat}(h:d<=7):2^d<=128:=by
 have:d=0\/d=1\/d=2\/d=3\/d=4\/d=5\/d=6\/d=7:=byO;rcases this with rfl|rfl|rfl|rfl|rfl|rfl|rfl|rfl<;>decide
theorem yp(l:List Nat):∀k j,(pkR l k).getD j 0<=128*k
 | 0,j=>by simp only[pkR,au₀,List.getElem?_replicate];split<;>simp
 | k+1,j=>by
  have h0:=yp l k j;have h1:=yp l k (k/8);have h2:=A5 (d:=7-k%8) byO;unfold pkR;split
  ·by_cases hk:k/8<(pkR l k).length
   ·rw[dD hk]
    split<;>omega
   ·rw[List.set_eq_of_length_le byO];omega
  ·omega
theorem GH{x d:Nat}(hx:x<64)(hd:d<6):IntKind.i64.wrap ((BitVec.ofInt IntKind.i64.bits ((x:Int).fdiv (2^(min d IntKind.i64.bits))) &&& BitVec.ofInt IntKind.i64.bits 1).toNat:Int)=((x/2^d%2:Nat):Int):=by
 have h:∀x:Fin 64,∀d:Fin 6,IntKind.i64.wrap ((BitVec.ofInt IntKind.i64.bits ((x.val:Int).fdiv (2^(min d.val IntKind.i64.bits))) &&& BitVec.ofInt IntKind.i64.bits 1).toNat:Int)=((x.val/2^d.val%2:Nat):Int):=by decide
 exact h ⟨x,hx⟩ ⟨d,hd⟩
theorem Hr{d:Nat}(hd:d<=7):IntKind.i64.wrap (1*2^(min d IntKind.i64.bits))=((2^d:Nat):Int):=by
 have h:∀d:Fin 8,IntKind.i64.wrap (1*2^(min d.val IntKind.i64.bits))=((2^d.val:Nat):Int):=by decide
 exact h ⟨d,byO⟩
section
variable {lo:Nat}{H:Heap}
open XYe
theorem Hy{w:Value}{b:Nat}{l:List Nat}(ho:Own lo 1 H w b (uN l))(hl:1<=l.length/\l.length<=100000)(hb:∀k,l.getD k 0<64)(hlo:lo<=H.length):Ev cp lo 52 [w] H (fun r H'=>Ext H H'/\r=.slice (some ⟨H.length,0,none⟩) ((6*l.length+7)/8) ((6*l.length+7)/8)/\H'.get H.length=some (uN (cE l))):=by
 obtain⟨hl0,hl1⟩:=hl;obtain⟨rfl,hg⟩:w=.slice (some ⟨b,0,some 1⟩) l.length l.length/\H.get b=some (uN l):=by
  obtain⟨_,⟨_,h⟩|⟨n,_,hn,hw,hg⟩⟩:=ho
  ·have:=congrArg List.length h
   simp at this;subst this;simp at hl0
  ·have:n=l.length:=by simpa using hn
   subst this;exact⟨hw,hg⟩
 clear ho;have hbl:=Heap.get_lt hg;obtain⟨q,hq,hqN⟩:∃q,((6*(l.length:Int)+7).tdiv 8=((q:Nat):Int))/\(6*l.length+7)/8=q:=⟨(6*l.length+7)/8,by rw[Int.tdiv_eq_ediv_of_nonneg byO];omega,rfl⟩;have hqb:6*l.length<=8*q/\q<=100000:=byO;have hpl:∀k,(pkR l k).length=q:=fun k=>(qB l k).trans hqN;rw[hqN];have hp0:uN (pkR l 0)=List.replicate q (aA 0):=by
  show uN (List.replicate ((6*l.length+7)/8) 0)=_;rw[hqN,uN,List.map_replicate]
 clear hqN;unfold cE;replace hpl:False\/_:=.inr hpl;replace hp0:False\/_:=.inr hp0;refine stG rfl rfl ?_;unfold Nx;simp only[kB,aC];refine aE ?_;have hxb:Ext H (H++[some (ah (List.replicate q 0))]):=Ext.app _ _;have hgb:(H++[some (ah (List.replicate q 0))]).get H.length=some (uN (pkR l 0)):=by
  rw[aG,hp0.resolve_left id];simp[ah]
 generalize H++[some (ah (List.replicate q 0))]=Hb at hxb hgb;refine aa (fun k S H'=>(Ext H H'/\H'.get H.length=some (uN (pkR l k)))/\∃(z:Nat->Value),S=[.slice (some ⟨b,0,some 1⟩) l.length l.length,z 1,.slice (some ⟨H.length,0,none⟩) q q,.int .i64 (k:Nat),z 4]) (6*l.length) ⟨⟨hxb,hgb⟩,aJ rfl⟩ ?_ ?_ ?_
 ·rintro k S H' hk ⟨_,z,rfl⟩
  exact⟨decide ((k:Int)<6*(l.length:Nat)),by simp(disch:=try exact dO)only[evB,xtr,Nat.reduceAdd,Nat.reduceBEq,Int.reduceToNat, *],by simp;omega⟩
 ·rintro k S H1 hk ⟨⟨hx1,hg1⟩,z,rfl⟩
  clear hxb hgb;have hgl:=hx1.get hg;have hl1:=Heap.get_lt hg1;have q1:(k:Int).tdiv 6=((k/6:Nat):Int):=by rw[Int.tdiv_eq_ediv_of_nonneg byO];omega
  have q2:(k:Int).tdiv 8=((k/8:Nat):Int):=by rw[Int.tdiv_eq_ediv_of_nonneg byO];omega
  have q3:5-(k:Int).tmod 6=((5-k%6:Nat):Int):=by rw[Int.tmod_eq_emod_of_nonneg byO];omega
  have q4:7-(k:Int).tmod 8=((7-k%8:Nat):Int):=by rw[Int.tmod_eq_emod_of_nonneg byO];omega
  have hb1:=hb (k/6);have hk6:k/6<l.length:=byO;have hk8:k/8<q:=byO;have hat:=mW hk6;have hba:=GH (d:=5-k%6) hb1 byO;have hbr:iJ l k=l.getD (k/6) 0/2^(5-k%6)%2:=rfl;have hst:pkR l (k+1)=if iJ l k=1 then(pkR l k).set (k/8) ((pkR l k).getD (k/8) 0+2^(7-k%8)) else pkR l k:=rfl
  have hlek:=yp l k (k/8);have hlk:=hpl.resolve_left id k;have h2p:=A5 (d:=7-k%8) byO;have hsh:=Hr (d:=7-k%8) byO;rw[hst];rw[<-hbr]at hba;clear hst hbr;have hbl:iJ l k<2:=Nat.mod_lt _ byO;have hat2:=mW (cs:=pkR l k) (k:=k/8) byO;generalize iJ l k=bt at hba hbl ⊢;generalize pkR l k=P at hg1 hlek hlk hat2 ⊢;generalize P.getD (k/8) 0=y at hat2 hlek ⊢;generalize l.getD (k/6) 0=x at hat hba hb1;have hd5:5-k%6<=5:=byO;generalize 5-k%6=d5 at q3 hba hd5;have hd7:7-k%8<=7:=byO;generalize 7-k%8=d7 at q4 hsh h2p hd7 ⊢;generalize 2^d7=pw at hsh h2p ⊢;have hsets:False\/(uN P).set (k/8) (aA (y+pw))=uN (P.set (k/8) (y+pw)):=.inr (by simp[uN,List.map_set]);have hul:(uN P).length<=q/\q<=(uN P).length:=by simp;omega
  have hul2:(uN l).length<=l.length/\l.length<=(uN l).length:=by simp
  obtain⟨Y,hY⟩:∃Y,False\/uN P=Y:=⟨_,.inr rfl⟩;rw[hY.resolve_left id]at hg1 hat2 hsets hul;obtain⟨UL,hUL⟩:∃UL,False\/uN l=UL:=⟨_,.inr rfl⟩;rw[hUL.resolve_left id]at hat hul2 hgl;generalize k/8=k8 at *;generalize k/6=k6 at *;(try simp only[aC]);by_cases hbt:bt=1
  ·have hd:decide ((bt:Int)=1)=true:=decide_eq_true byO
   rw[if_pos hbt];refine aN ?_ ?_<;>intro h
   ·refine aE ?_
    have hs:Y.set k8 (Value.int .i64 ((y:Int)+(pw:Nat)))=uN (P.set k8 (y+pw)):=by rw[<-hsets.resolve_left id];rfl
    have hk7:Keep H.length H1 (List.set H1 H.length (some (Y.set k8 (Value.int .i64 ((y:Int)+(pw:Nat)))))):=keepSet;have hg7:Heap.get (List.set H1 H.length (some (Y.set k8 (Value.int .i64 ((y:Int)+(pw:Nat)))))) H.length=some (Y.set k8 (Value.int .i64 ((y:Int)+(pw:Nat)))):=aF byO;exact⟨⟨hk7.ext hx1 (Nat.le_refl _),by rw[hg7,hs]⟩,aJ ncM⟩
   ·exfalso;first|cases h|(simp at h;done)
  ·have hd:decide ((bt:Int)=1)=false:=decide_eq_false byO
   rw[if_neg hbt];refine aN ?_ ?_<;>intro h
   ·exfalso;first|cases h|(simp at h;done)|(simp at h;omega)
   ·refine aE ?_
    exact⟨⟨hx1,by rw[hY.resolve_left id];exact hg1⟩,aJ ncM⟩
 ·rintro S H1 ⟨⟨hx1,hg1⟩,z,rfl⟩
  refine aE ?_;refine dB ?_;exact⟨hx1,rfl,hg1⟩
end
end Go.Proofs.YtmnlgdpdgjbfgaaGreat
