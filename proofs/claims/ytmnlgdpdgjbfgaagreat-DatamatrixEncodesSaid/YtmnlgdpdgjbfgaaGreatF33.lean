/- Lemmas. -/
import Derived.Test.YtmnlgdpdgjbfgaaGreatF32
set_option linter.all false
namespace Go.Proofs.YtmnlgdpdgjbfgaaGreat
open Go.Abs
variable{H:Heap}{v:Value}{p:List UInt8}
set_option maxRecDepth 20000
def eS(n:RN):Nat:=n.i*128+fV n
theorem Iq{N:Nat}{n:RN}(h:n.ok N):eS n<(N+1)*128:=by
 have:=j1 h;have:=h.i
 grind[eS]
theorem GS{N:Nat}{n n':RN}(h:n.ok N)(h':n'.ok N)(hi:n.i=n'.i)(e:fV n=fV n'):n=n':=by
 obtain⟨h1,h2,⟨h3,h4,h5⟩,h6,h7⟩:=h;obtain⟨g1,g2,⟨g3,g4,g5⟩,g6,g7⟩:=h';obtain⟨i,m,ph,s,u⟩:=n;obtain⟨i',m',ph',s',u'⟩:=n'
 grind[fV]
theorem Ip{N:Nat}{n n':RN}(h:n.ok N)(h':n'.ok N)(e:eS n=eS n'):n=n':=by
 grind[j1,eS,GS]
theorem u0{N i:Nat}(hi:i<=N):∀n ∈ gS i,n.ok N/\n.i=i:=by
 intro n hn;unfold gS at hn;simp only[be₀]at hn;rcases hn with (hn|hn)|hn
 ·obtain rfl:=List.mem_singleton.1 hn
  exact⟨gO hi,rfl⟩
 ·simp only[ndM,ndP,ndS,nd2,List.mem_flatMap,List.mem_cons,List.not_mem_nil,or_false]at hn
  obtain⟨m,hm,ph,hph,s,hs,rfl|rfl⟩:=hn
  ·exact⟨⟨hi,by grind,⟨by grind,fun _=>by grind,fun e=>by simp_all⟩,by grind,fun e=>by grind⟩,rfl⟩
  ·exact⟨⟨hi,by grind,⟨by grind,fun _=>by grind,fun e=>by simp_all⟩,by grind,fun e=>by grind⟩,rfl⟩
 ·simp only[ndE,List.mem_flatMap,be₀]at hn
  obtain⟨ph,hph,hn|hn⟩:=hn
  ·split at hn
   ·obtain rfl:=List.mem_singleton.1 hn
    exact⟨⟨hi,by simp,⟨by grind,fun _=>by grind,fun e=>by simp_all⟩,by simp,fun _=>⟨rfl,rfl⟩⟩,rfl⟩
   ·cases hn
  ·obtain rfl:=List.mem_singleton.1 hn
   exact⟨⟨hi,by simp,⟨by grind,fun e=>absurd rfl e,fun e=>by simp_all⟩,by simp,fun _=>⟨rfl,rfl⟩⟩,rfl⟩
theorem AN{N:Nat}{n:RN}(h:n.ok N):n ∈ gS n.i:=by
 obtain⟨h1,h2,⟨h3,h4,h5⟩,h6,h7⟩:=h;obtain⟨i,m,ph,s,u⟩:=n;simp only at *;unfold gS;simp only[be₀];by_cases e0:m=0
 ·grind[asR]
 ·by_cases e3:3<=m
  ·grind[ndE]
  ·refine .inl (.inr ?_)
   simp only[ndM,ndP,ndS,nd2,List.mem_flatMap,List.mem_range];refine⟨m-1,byO,ph,byO,s,byO,?_⟩;have hm:m-1+1=m:=byO
   simp_all
theorem zC{p:List UInt8}{n:RN}:∀k,∀x ∈ eY p n k,n.i<=x.to.i
 | 0,x,hx=>by
  grind[eY]
 | k+1,x,hx=>by
  rcases List.mem_append.1 hx with hx|hx
  ·exact zC k x hx
  grind[dW]
theorem Dc{n:RN}:∀x ∈ bx p n,n.i<=x.to.i:=by
 intro x hx;unfold bx at hx;split at hx
 ·unfold dI at hx
  simp only[be₀]at hx;rcases hx with (((hx|hx)|hx)|hx)|hx
  all_goals grind[iN,asR,oU,jw,nP,l6,dJ]
 ·split at hx
  ·exact zC 40 x hx
  ·rcases List.mem_append.1 hx with hx|hx
   ·obtain rfl:=List.mem_singleton.1 hx
    exact Nat.le_refl _
   simp_all
theorem mK{C:List Nat}:∀(L:List RS) (b:Nat),L.foldl (je C) b<=b/\(∀x ∈ L,L.foldl (je C) b<=eX C x)/\(L.foldl (je C) b=b\/∃x ∈ L,L.foldl (je C) b=eX C x)
 | [],b=>⟨Nat.le_refl _,by simp,.inl rfl⟩
 | y::L,b=>by
  obtain⟨h1,h2,h3⟩:=mK (C:=C) L (je C b y);have hm:je C b y<=b/\je C b y<=eX C y/\(je C b y=b\/je C b y=eX C y):=by
   grind[je]
  grind
theorem q9{n:RN}{C:List Nat}:eK p n C<=mi p n:=(mK _ _).1
theorem pF{n:RN}{C:List Nat}{x:RS}(h:x ∈ bx p n):eK p n C<=eX C x:=(mK _ _).2.1 x h
theorem Aw{n:RN}{C:List Nat}:eK p n C=mi p n\/∃x ∈ bx p n,eK p n C=eX C x:=(mK _ _).2.2
theorem xC(p:List UInt8)(n:RN):mi p n<=1099511627776:=by grind[mi]
theorem Df{C C':List Nat}(h:∀j,C'.getD j 0<=C.getD j 0)(x:RS):eX C' x<=eX C x:=by
 grind[eX]
theorem C5{n:RN}{C C':List Nat}(h:∀j,C'.getD j 0<=C.getD j 0):eK p n C'<=eK p n C:=by
 rcases Aw (p:=p) (n:=n) (C:=C)with e|⟨x,hx,e⟩
 ·grind[q9]
 ·rw[e];exact Nat.le_trans (pF hx) (Df h x)
theorem EI{n:RN}{C C':List Nat}(h:∀j,n.i*128<=j->C'.getD j 0=C.getD j 0):eK p n C'=eK p n C:=by
 unfold eK;have key:∀L:List RS,(∀x ∈ L,n.i<=x.to.i)->∀b,L.foldl (je C') b=L.foldl (je C) b:=by
  intro L
  induction L with
  | nil=>simp_all
  | cons x L ih=>
   grind[eX,je]
 grind[Dc]
def oc(p:List UInt8)(s:List Nat×Bool)(n:RN):List Nat×Bool:=if eK p n s.1<s.1.getD (eS n) 0 then(s.1.set (eS n) (eK p n s.1),true) else s
def iO(p:List UInt8)(L:List RN)(s:List Nat×Bool):List Nat×Bool:=L.foldl (oc p) s
inductive StlB (p:List UInt8) (i:Nat):List Nat->List Nat->Prop
 | done {c c':List Nat}:iO p (gS i) (c,false)=(c',false)->StlB p i c c'
 | more {c d c':List Nat}:iO p (gS i) (c,false)=(d,true)->StlB p i d c'->StlB p i c c'
def qX(i:Nat)(c:List Nat):Nat->List Nat
 | 0=>c
 | k+1=>(qX i c k).set (i*128+k) 1099511627776
inductive NewB (p:List UInt8):Nat->List Nat->Prop
 | start:NewB p (p.length+1) (List.replicate ((p.length+1)*128) 0)
 | step {i:Nat} {c c':List Nat}:NewB p (i+1) c->StlB p i (qX i c 128) c'->NewB p i c'
structure Stp2 (i:Nat)(s t:List Nat×Bool):Prop where
 len:t.1.length=s.1.length
 le:∀j,t.1.getD j 0<=s.1.getD j 0
 ne:∀j,(j<i*128\/(i+1)*128<=j)->t.1.getD j 0=s.1.getD j 0
 sum:t.1.sum<=s.1.sum
 fl:t.2=true->s.2=true\/t.1.sum<s.1.sum
theorem Stp2.refl(i:Nat)(s:List Nat×Bool):Stp2 i s s:=⟨rfl,fun _=>Nat.le_refl _,fun _ _=>rfl,Nat.le_refl _,fun h=>.inl h⟩
theorem Stp2.trans{i:Nat}{s t u:List Nat×Bool}(h:Stp2 i s t)(g:Stp2 i t u):Stp2 i s u:=by
 refine⟨g.len.trans h.len,fun j=>Nat.le_trans (g.le j) (h.le j),fun j hj=>(g.ne j hj).trans (h.ne j hj),Nat.le_trans g.sum h.sum,fun e=>?_⟩;rcases g.fl e with e|e
 ·rcases h.fl e with e|e
  ·exact .inl e
  ·exact .inr (Nat.lt_of_le_of_lt g.sum e)
 ·exact .inr (bd₀ e h.sum)
theorem yl{i N:Nat}{s:List Nat×Bool}{n:RN}(hn:n.ok N)(hi:n.i=i):Stp2 i s (oc p s n):=by
 have h128:=j1 hn;unfold oc;split
 ·have hl:eS n<s.1.length:=by
   grind
  have hs:=wh (x:=eK p n s.1) hl;refine⟨by simp,fun j=>?_,fun j hj=>?_,by grind,fun _=>.inr (by grind)⟩
  all_goals grind[eS]
 grind[Stp2.refl]
theorem mR{p:List UInt8}{i N:Nat}:∀{L:List RN} {s:List Nat×Bool},(∀n ∈ L,n.ok N/\n.i=i)->Stp2 i s (iO p L s)
 | [],s,_=>Stp2.refl i s
 | n::L,s,h=>Stp2.trans (yl (h n (by simp)).1 (h n (by simp)).2) (mR (L:=L) (s:=oc p s n) fun m hm=>h m (List.mem_cons_of_mem _ hm))
def UpB(p:List UInt8)(N i:Nat)(c:List Nat):Prop:=c.length=(N+1)*128/\∀n:RN,n.ok N->n.i=i->eK p n c<=c.getD (eS n) 0
theorem KB{i N:Nat}{s:List Nat×Bool}{n:RN}(h:UpB p N i s.1)(hn:n.ok N)(hi:n.i=i):UpB p N i (oc p s n).1:=by
 have hst:=yl (p:=p) (s:=s) hn hi;refine⟨hst.len.trans h.1,fun n' hn' hi'=>?_⟩;have hm:=C5 (p:=p) (n:=n') hst.le;have h0:=h.2 n' hn' hi'
 grind[oc,Ip]
theorem ye{p:List UInt8}{i N:Nat}:∀{L:List RN} {s:List Nat×Bool},(∀n ∈ L,n.ok N/\n.i=i)->UpB p N i s.1->UpB p N i (iO p L s).1
 | [],s,_,h=>h
 | n::L,s,hL,h=>ye (L:=L) (s:=oc p s n) (fun m hm=>hL m (List.mem_cons_of_mem _ hm)) (KB h (hL n (by simp)).1 (hL n (by simp)).2)
theorem D3{s:List Nat×Bool}{n:RN}(h:(oc p s n).2=false):oc p s n=s/\¬ eK p n s.1<s.1.getD (eS n) 0:=by
 grind[oc]
theorem sV{p:List UInt8}:∀{L:List RN} {s:List Nat×Bool},(iO p L s).2=false->iO p L s=s/\∀n ∈ L,¬ eK p n s.1<s.1.getD (eS n) 0
 | [],s,h=>⟨rfl,by simp⟩
 | n::L,s,h=>by
  have h0:iO p (n::L) s=iO p L (oc p s n):=rfl;obtain⟨e,f⟩:=sV (L:=L) h
  grind[D3]
theorem HT{i:Nat}(hi:i<=p.length){c c':List Nat}(h:StlB p i c c'):UpB p p.length i c->(c'.length=c.length/\(∀j,c'.getD j 0<=c.getD j 0)/\(∀j,(j<i*128\/(i+1)*128<=j)->c'.getD j 0=c.getD j 0))/\∀n:RN,n.ok p.length->n.i=i->c'.getD (eS n) 0=eK p n c':=by
 have hnd:=u0 hi
 induction h with
 | @done c c' h=>
  intro hu;have hst:=mR (p:=p) (s:=(c,false)) hnd;have e:=sV (p:=p) (L:=gS i) (s:=(c,false)) (by rw[h]);rw[h]at e;have ec:c'=c:=congrArg Prod.fst e.1;subst ec;refine⟨⟨rfl,fun _=>Nat.le_refl _,fun _ _=>rfl⟩,fun n hn hni=>?_⟩;have h1:=e.2 n (by grind[AN]);have h2:=hu.2 n hn hni
  grind
 | @more c d c' h _ ih=>
  intro hu;have hst:=mR (p:=p) (s:=(c,false)) hnd;have hup:=ye (p:=p) (s:=(c,false)) hnd hu;rw[h]at hst hup;obtain⟨⟨g1,g2,g3⟩,g4⟩:=ih hup;exact⟨⟨g1.trans hst.len,fun j=>Nat.le_trans (g2 j) (hst.le j),fun j hj=>(g3 j hj).trans (hst.ne j hj)⟩,g4⟩
theorem yp{i:Nat}{c:List Nat}(hl:(i+1)*128<=c.length):∀k,k<=128->(qX i c k).length=c.length/\∀j,(qX i c k).getD j 0=if i*128<=j/\j<i*128+k then 1099511627776 else c.getD j 0
 | 0,_=>⟨rfl,fun j=>by rw[if_neg byO];rfl⟩
 | k+1,h=>by
  obtain⟨h1,h2⟩:=yp (i:=i) hl k byO
  grind[qX]
theorem J3{a:Nat}{c:List Nat}(h:NewB p a c):a<=p.length+1:=by
 induction h with
 | start=>omega
 | step _ _ ih=>omega
theorem J4{a:Nat}{c:List Nat}(h:NewB p a c):(c.length=(p.length+1)*128/\∀j,c.getD j 0<=1099511627776)/\∀n:RN,n.ok p.length->a<=n.i->c.getD (eS n) 0=eK p n c:=by
 induction h with
 | start=>exact⟨⟨by simp,fun j=>by simp only[au₀,List.getElem?_replicate];split<;>simp⟩,fun n hn h1=>by have:=hn.i;omega⟩
 | @step a c c' hn hs ih=>
  obtain⟨⟨hl,hle⟩,hr⟩:=ih;have ha:=J3 hn;have hal:(a+1)*128<=c.length:=by
   rw[hl];exact Nat.mul_le_mul_right 128 byO
  obtain⟨g1,g2⟩:=yp hal 128 (Nat.le_refl _);have hup:UpB p p.length a (qX a c 128):=by
   refine⟨g1.trans hl,fun n hn hi=>?_⟩;rw[g2,if_pos (by have:=j1 hn;unfold eS;rw[hi];omega)];exact Nat.le_trans q9 (xC _ _)
  obtain⟨⟨f1,f2,f3⟩,f4⟩:=HT byO hs hup;refine⟨⟨by rw[f1,g1,hl],fun j=>?_⟩,fun n hn h1=>?_⟩
  ·refine Nat.le_trans (f2 j) ?_
   rw[g2];split
   ·exact Nat.le_refl _
   ·exact hle j
  ·by_cases e:n.i=a
   ·exact f4 n hn e
   ·have hag:∀j,n.i*128<=j->c'.getD j 0=c.getD j 0:=by
     intro j hj;have hj2:(a+1)*128<=j:=Nat.le_trans (Nat.mul_le_mul_right 128 byO) hj;rw[f3 j (.inr hj2),g2,if_neg byO]
    rw[EI hag,hag _ (by unfold eS;omega)];exact hr n hn byO
structure SolR (p:List UInt8)(c:List Nat):Prop where
 len:c.length=(p.length+1)*128
 le:∀j,c.getD j 0<=1099511627776
 eq:∀n:RN,n.ok p.length->c.getD (eS n) 0=eK p n c
theorem GR{c:List Nat}(h:NewB p 0 c):SolR p c:=by
 obtain⟨⟨h1,h3⟩,h2⟩:=J4 h;exact⟨h1,h3,fun n hn=>h2 n hn (Nat.zero_le _)⟩
theorem Hq(n:Nat):bH (List.replicate 128 (Value.int .i64 0)) n=uN (List.replicate (n*128) 0):=by
 have:bH (List.replicate 128 (Value.int .i64 0)) n=List.replicate (n*128) (Value.int .i64 0):=by
  unfold bH
  induction n with
  | zero=>rfl
  | succ n ih=>rw[List.replicate_succ,List.flatten_cons,ih,List.replicate_append_replicate,Nat.succ_mul,Nat.add_comm]
 rw[this,uN,List.map_replicate];rfl
structure CoW (A H:Heap)(kb:Nat)(v:Value)(p:List UInt8)(C:List Nat):Prop where
 s:CoH H kb v p C
 pl:SlU A v p
 ext:Ext A H
 kbA:A.length<=kb
theorem CoW.mono{A H H':Heap}{kb:Nat}{v:Value}{p:List UInt8}{C:List Nat}(h:CoW A H kb v p C)(e:Ext H H'):CoW A H' kb v p C:=
 ⟨h.s.ext e,h.pl,h.ext.trans e,h.kbA⟩
theorem CoW.set{A H H':Heap}{kb i x:Nat}{v:Value}{p:List UInt8}{C:List Nat}(h:CoW A H kb v p C)(hk:Keep kb H H')(hg:H'.get kb=some (uN (C.set i x)))(hx:x<=1099511627776):CoW A H' kb v p (C.set i x):=by
 have hA:=hk.ext h.ext h.kbA;refine⟨⟨hg,h.pl.mono hA,by simpa using h.s.len,h.s.hi,fun j=>?_⟩,h.pl,hA,h.kbA⟩;by_cases hi:i<C.length
 ·rw[mF hi];split
  ·exact hx
  ·exact h.s.le j
 ·rw[List.set_eq_of_length_le byO];exact h.s.le j
theorem AM(i:Nat):(gS i).length<=100:=by
 have:=vx i 2;have:=Bk i 4;unfold gS;simp;omega
section
variable {lo:Nat}{H:Heap}{v:Value}{p:List UInt8}
open XYe
theorem NY(hp:SlU H v p)(hl:p.length<=4096)(hlo:lo<=H.length):Ev cp lo 49 [v] H (fun r H'=>Ext H H'/\∃C,NewB p 0 C/\r=coV H.length p/\CoH H' H.length v p C):=by
 obtain⟨ad,c,ev⟩:=hp.len;subst ev;have htn:((p.length:Int)+1).toNat=p.length+1:=byO;refine stG rfl rfl ?_;unfold QR;simp only[kB,aD];refine aA ?_;clear htn;generalize hC:uN (List.replicate ((p.length+1)*128) 0)=C;have hz:=(Hq (p.length+1)).trans hC;generalize hZ:bH _ (p.length+1)=Z;have hzz:Z=C:=hZ.symm.trans hz;subst hzz;clear hz hZ;have hxb:Ext H (H++[some Z]):=Ext.app _ _;have hg0:(H++[some Z]).get H.length=some Z:=aF;change wpS cp lo _ _ _ (H++[some Z]);generalize H++[some Z]=H0 at hxb hg0;have hs0:CoW H H0 H.length (.slice ad p.length c) p (List.replicate ((p.length+1)*128) 0):=by
  refine⟨⟨by rw[hC];exact hg0,hp.mono hxb,by simp,hl,fun i=>?_⟩,hp,hxb,Nat.le_refl _⟩;simp only[au₀,List.getElem?_replicate];split<;>simp
 clear hg0 hC;have hn0:NewB p (p.length+1) (List.replicate ((p.length+1)*128) 0):=.start;generalize List.replicate ((p.length+1)*128) 0=cs at hs0 hn0;refine aS (fun k S H'=>(∃cs,NewB p (p.length+1-k) cs/\CoW H H' H.length (.slice ad p.length c) p cs)/\∃(z:Nat->Value),S=[.slice ad p.length c,z 1,coV H.length p,.int .i64 ((p.length:Int)-(k:Nat)),z 4,z 5,z 6,z 7,z 8,z 9,z 10,z 11,z 12,z 13,z 14,z 15,z 16,z 17]) (p.length+1) ⟨⟨cs,hn0,hs0⟩,aH (by simp)⟩ ?_ ?_ ?_
 ·rintro k S H' hk ⟨h1,z,rfl⟩
  exact⟨decide ((p.length:Int)-(k:Nat)>=0),by simp(disch:=try exact dO)only[evB,xtr,Nat.reduceAdd,Nat.reduceBEq,Int.reduceToNat, *],by simp;omega⟩
 ·rintro k S H1 hk ⟨⟨cs,hn,hs⟩,z,rfl⟩
  obtain⟨a,ha,hak⟩:∃a:Nat,(p.length:Int)-(k:Nat)=(a:Nat)/\p.length+1-k=a+1/\p.length+1-(k+1)=a/\a<=p.length:=⟨p.length-k,byO,byO⟩;have ha2:(p.length:Int)-((k+1:Nat):Nat)=(a:Nat)-1:=byO;rw[hak.2.1,ha2,ha];rw[hak.1]at hn;obtain⟨_,_,hap⟩:=hak;clear ha2 ha hs0 hn0;replace hn:False\/_:=.inr hn;have hx1:=hs.ext;have hl1:=hx1.1;have hkl1:=Heap.get_lt hs.s.c;refine bF ?_;refine aC (O4 (lo:=lo) (i:=a) byO byO) ?_;rintro r H2 ⟨hx2,nb,hnb,ho⟩;have hnd:=u0 (N:=p.length) hap;have hLl:=AM a;obtain⟨aw,rfl⟩:=ho.len byO oi;have hs2:=hs.mono hx2;have hl2:=hx2.1;obtain⟨L,hL⟩:∃L,False\/gS a=L:=⟨_,.inr rfl⟩;rw[hL.resolve_left id]at ho hnd hLl ⊢;clear hs;refine aA ?_;refine c8 (fun S' H'=>(Keep H.length H2 H'/\CoW H H' H.length (.slice ad p.length c) p (qX a cs 128))/\∃(z:Nat->Value),S'=[.slice ad p.length c,z 1,coV H.length p,aB a,.slice aw L.length L.length,z 5,z 6,z 7,z 8,z 9,z 10,z 11,z 12,z 13,z 14,z 15,z 16,z 17]) ?_ ?_
  ·refine aS (fun j S H'=>(Keep H.length H2 H'/\CoW H H' H.length (.slice ad p.length c) p (qX a cs j))/\∃(z:Nat->Value),S=[.slice ad p.length c,z 1,coV H.length p,aB a,.slice aw L.length L.length,.int .i64 (j:Nat),z 6,z 7,z 8,z 9,z 10,z 11,z 12,z 13,z 14,z 15,z 16,z 17]) 128 ⟨⟨Ext.keep (Ext.refl _),hs2⟩,aH rfl⟩ ?_ ?_ ?_
   ·rintro j S H' hj ⟨h1,z,rfl⟩
    exact⟨decide ((j:Int)<128),by simp(disch:=try exact dO)only[evB,xtr,Nat.reduceAdd,Nat.reduceBEq,Int.reduceToNat, *],by simp;omega⟩
   ·rintro j S H3 hj ⟨⟨hk3,hs3⟩,z,rfl⟩
    have hr:qX a cs (j+1)=(qX a cs j).set (a*128+j) 1099511627776:=rfl;rw[hr];clear hr hs2;generalize qX a cs j=ss at hs3 ⊢;have hgc:=hs3.s.c;have hll:=Heap.get_lt hgc;have hlen:=hs3.s.len;have hidx:a*128+j<ss.length:=byO;have hul:(uN ss).length<=ss.length/\ss.length<=(uN ss).length:=by simp
    have hset:False\/(uN ss).set (a*128+j) (aB 1099511627776)=uN (ss.set (a*128+j) 1099511627776):=.inr (by simp[uN,List.map_set]);generalize uN ss=Y at hgc hul hset;replace hlen:ss.length<=(p.length+1)*128/\(p.length+1)*128<=ss.length:=byO;refine aA ?_;have hk7:Keep H.length H3 (List.set H3 H.length (some (Y.set (a*128+j) (Value.int .i64 1099511627776)))):=keepSet;have hg7:Heap.get (List.set H3 H.length (some (Y.set (a*128+j) (Value.int .i64 1099511627776)))) H.length=some (Y.set (a*128+j) (Value.int .i64 1099511627776)):=aG byO;exact⟨⟨az hk3 (.inl rfl) hk7,hs3.set hk7 (by rw[hg7];exact congrArg some (hset.resolve_left id)) byO⟩,aH ncM⟩
   ·rintro S H3 ⟨h3,z,rfl⟩
    (try simp only[aD]);exact⟨h3,aH rfl⟩
  clear hs2;rintro S H3 ⟨⟨hk3,hs3⟩,z,rfl⟩;obtain⟨c0,hc0⟩:∃c0,False\/qX a cs 128=c0:=⟨_,.inr rfl⟩;rw[hc0.resolve_left id]at hs3;refine aA ?_;refine aY (fun m S H'=>∃(c1:List Nat) (t:Bool),(Keep H.length H2 H'/\CoW H H' H.length (.slice ad p.length c) p c1)/\((t=true/\m=c1.sum+1/\∀c',StlB p a c1 c'->StlB p a c0 c')\/(t=false/\m=0/\StlB p a c0 c1))/\∃(z:Nat->Value),S=[.slice ad p.length c,z 1,coV H.length p,aB a,.slice aw L.length L.length,z 5,.bool t,z 7,z 8,z 9,z 10,z 11,z 12,z 13,z 14,z 15,z 16,z 17]) (c0.sum+1) ⟨c0,true,⟨hk3,hs3⟩,.inl ⟨rfl,rfl,fun _ h=>h⟩,aH rfl⟩ ?_;clear hs3 hk3;rintro m S H3 ⟨c1,t,⟨hk3,hs3⟩,hcase,z,rfl⟩;rcases hcase with ⟨rfl,hm,hst⟩|⟨rfl,hm,hst⟩
  ·replace hst:False\/_:=.inr hst
   replace hm:m<=c1.sum+1/\c1.sum+1<=m:=byO;(try simp only[aD]);refine bL ?_;refine aA ?_;refine aS (fun k S H'=>(Keep H.length H2 H'/\CoW H H' H.length (.slice ad p.length c) p (iO p (L.take k) (c1,false)).1)/\∃(z:Nat->Value),S=[.slice ad p.length c,z 1,coV H.length p,aB a,.slice aw L.length L.length,z 5,.bool (iO p (L.take k) (c1,false)).2,.int .i64 (k:Nat),z 8,z 9,z 10,z 11,z 12,z 13,z 14,z 15,z 16,z 17]) L.length ⟨⟨hk3,hs3⟩,aH rfl⟩ ?_ ?_ ?_
   ·rintro k S H' hk ⟨h1,z,rfl⟩
    exact⟨decide ((k:Int)<(L.length:Nat)),by simp(disch:=try exact dO)only[evB,xtr,Nat.reduceAdd,Nat.reduceBEq,Int.reduceToNat, *],by simp⟩
   ·rintro k S H4 hk ⟨⟨hk4,hs4⟩,z,rfl⟩
    have hr:iO p (L.take (k+1)) (c1,false)=oc p (iO p (L.take k) (c1,false)) L[k]:=by
     unfold iO;rw[List.take_succ_eq_append_getElem hk,List.foldl_append];rfl
    rw[hr];clear hr hs3 hk3;have ho4:=ho.keep hk4 byO;obtain⟨p4,o4,X4,i4,g4,l4,e4⟩:=ho4.at byO oi hk;obtain⟨hok,hni⟩:=hnd _ (List.getElem_mem hk);generalize iO p (L.take k) (c1,false)=s4 at hs4 ⊢;generalize L[k]=n at e4 hok hni ⊢;replace hni:n.i<=a/\a<=n.i:=byO;replace e4:(X4.drop o4).take 5=[aB n.i,aB n.m,aB n.ph,aB n.s,.bool n.u]:=e4;have hl4:=hk4.len;replace i4:∀G,aJ (.iAddr 5) [.slice aw L.length L.length,.int .i64 (k:Nat)] G=some (.pointer (some ⟨p4,o4,none⟩)):=fun G=>by
     clear ho4 ho;rcases aw with _|⟨b0,o0,_|s0⟩<;>exact i4
    refine aA ?_;refine aT ?_;refine aC (Qu (lo:=lo) (n:=n) hs4.s hok byO) ?_;rintro r H5 ⟨hx5,rfl⟩;have hs5:=hs4.mono hx5;have hk5:Keep H.length H4 H5:=Ext.keep hx5;have hl5:=hx5.1;replace g4:=hx5.get g4;clear ho4;have hrel:oc p s4 n=if eK p n s4.1<s4.1.getD (a*128+fV n) 0 then(s4.1.set (a*128+fV n) (eK p n s4.1),true) else s4:=by
     have e:n.i=a:=byO;unfold oc eS;rw[e]
    replace hrel:False\/_:=.inr hrel;have hbl:eK p n s4.1<=1099511627776:=Nat.le_trans q9 (xC _ _);obtain⟨ss,bb⟩:=s4;simp only at hs4 hs5 hrel hbl ⊢;have hnl:=j1 hok;have hgc:=hs5.s.c;have hlen:=hs5.s.len;have hidx:a*128+fV n<ss.length:=byO;have hat:=nC hidx;have hle:=hs5.s.le (a*128+fV n);have hul:(uN ss).length<=ss.length/\ss.length<=(uN ss).length:=by simp
    have hset:False\/∀y,(uN ss).set (a*128+fV n) (aB y)=uN (ss.set (a*128+fV n) y):=.inr (fun y=>by simp[uN,List.map_set]);have hno:=fun H (h:H5.length<=H.length)=>J5 (lo:=lo) (H:=H) hok byO;have hno5:=hno H5 (Nat.le_refl _);generalize eK p n ss=x at hrel hbl ⊢;generalize ss.getD (a*128+fV n) 0=y at hat hrel hle;generalize uN ss=Y at hgc hat hul hset;replace hlen:ss.length<=(p.length+1)*128/\(p.length+1)*128<=ss.length:=byO;generalize fV n=nx at hat hidx hnl hno5 hno hrel hset;refine aA ?_;refine aT ?_;refine eF (first:=#[]) (cap:=#[]) (args:=[rnV n]) hno5 ?_;rintro r H6 ⟨hx6,rfl⟩;have hs6:=hs5.mono hx6;have hk6:Keep H.length H4 H6:=Ext.keep (hx5.trans hx6);have hl6:=hx6.1;replace g4:=hx6.get g4;replace hgc:=hx6.get hgc;have hkl6:=Heap.get_lt hgc;by_cases hxy:x<y
    ·have hd:decide ((x:Int)<(y:Nat))=true:=decide_eq_true byO
     have e:=hrel.resolve_left id;rw[if_pos hxy]at e;rw[e];clear e hrel;(try simp only[aD]);refine bL ?_;clear hd;refine bF ?_;refine eF (first:=#[]) (cap:=#[]) (args:=[rnV n]) (hno H6 byO) ?_;rintro r H7 ⟨hx7,rfl⟩;have hs7:=hs6.mono hx7;have hk7:Keep H.length H4 H7:=az hk6 (.inl rfl) (Ext.keep hx7);replace hgc:=hx7.get hgc;have hkl7:=Heap.get_lt hgc;clear hno hno5;refine aA ?_;have e2:=hset.resolve_left id x;have hk8:Keep H.length H7 (List.set H7 H.length (some (Y.set (a*128+nx) (Value.int .i64 (x:Nat))))):=keepSet;have hg8:Heap.get (List.set H7 H.length (some (Y.set (a*128+nx) (Value.int .i64 (x:Nat))))) H.length=some (Y.set (a*128+nx) (Value.int .i64 (x:Nat))):=aG byO;exact⟨⟨az hk4 (.inl rfl) (az hk7 (.inl rfl) hk8),hs7.set hk8 (by rw[hg8];exact congrArg some e2) byO⟩,aH ncM⟩
    ·have hd:decide ((x:Int)<(y:Nat))=false:=decide_eq_false byO
     have e:=hrel.resolve_left id;rw[if_neg hxy]at e;rw[e];clear e hrel;(try simp only[aD]);refine aP ?_ ?_<;>intro h
     ·simp at h
     ·clear h hd
      refine aA ?_;exact⟨⟨az hk4 (.inl rfl) hk6,hs6⟩,aH ncM⟩
   ·rintro S H4 ⟨⟨hk4,hs4⟩,z,rfl⟩
    rw[List.take_length]at hs4 ⊢;have hrow:=mR (p:=p) (s:=(c1,false)) hnd;obtain⟨d,t,hdt⟩:∃d t,iO p L (c1,false)=(d,t):=⟨_,_,rfl⟩;rw[hdt]at hs4 hrow ⊢;clear hs3 hk3;have hdt2:False\/iO p (gS a) (c1,false)=(d,t):=.inr (by rw[hL.resolve_left id];exact hdt);clear hdt;(try simp only[aD]);refine⟨if t then d.sum+1 else 0,?_,d,t,⟨hk4,hs4⟩,?_,aH rfl⟩
    ·cases t with
     | true=>
      rcases hrow.fl rfl with h|h
      ·cases h
      ·simp only at h ⊢;simp;omega
     | false=>simp;omega
    ·cases t with
     | true=>exact .inl ⟨rfl,rfl,fun c' h=>hst.resolve_left id c' (.more (hdt2.resolve_left id) h)⟩
     | false=>exact .inr ⟨rfl,rfl,hst.resolve_left id _ (.done (hdt2.resolve_left id))⟩
  ·replace hst:False\/_:=.inr hst
   replace hm:m<=0:=byO;(try simp only[aD]);refine an ?_
   ·refine aA ?_
    refine⟨⟨c1,.step (hn.resolve_left id) ?_,hs3⟩,aH ncM⟩;rw[hc0.resolve_left id];exact hst.resolve_left id
 ·rintro S H1 ⟨⟨cs,hn,hs⟩,z,rfl⟩
  rw[Nat.sub_self]at hn;have hx:=hs.ext;replace hn:False\/_:=.inr hn;refine aA ?_;refine aK ?_;exact⟨hx,cs,hn.resolve_left id,rfl,hs.s⟩
end
def chS(C:List Nat)(t:Nat)(s:RS×Bool)(x:RS):RS×Bool:=if eX C x=t/\(s.2=false\/dt x s.1=true) then(x,true) else s
def gM:RS:=⟨0,0,0,0,asR 0⟩
def de(p:List UInt8)(n:RN)(C:List Nat):RS:=((bx p n).foldl (chS C (C.getD (eS n) 0)) (gM,false)).1
section
variable {lo:Nat}{H:Heap}{v:Value}{p:List UInt8}
open XYe
theorem IH{n:RN}{kb:Nat}{C:List Nat}(hs:CoH H kb v p C)(hn:n.ok p.length)(hlo:lo<=H.length):Ev cp lo 50 [v,rnV n,coV kb p] H (fun r H'=>Ext H H'/\r=rsV (de p n C)):=by
 obtain⟨ad,c,ev⟩:=hs.pl.len;rw[ev]at hs ⊢;clear ev;have h1:=hn.i;have hl:=hs.hi;refine stG rfl rfl ?_;unfold QT;simp only[kB,aD];refine aA ?_;have hxb:Ext H (H++[some (rnC n),some (rsC gM)]):=Ext.app _ _;have hgb:(H++[some (rnC n),some (rsC gM)]).get H.length=some [aB n.i,aB n.m,aB n.ph,aB n.s,.bool n.u]:=aF;have hgz:(H++[some (rnC n),some (rsC gM)]).get (H.length+1)=some (rsC gM):=by rw[bC];rfl
 change wpS cp lo _ _ _ (H++[some (rnC n),some (rsC gM)]);generalize H++[some (rnC n),some (rsC gM)]=Hb at hxb hgb hgz;have hlb:=Heap.get_lt hgz;refine aT ?_;refine aC (HS (n:=n) (hs.ext hxb).pl hn hl byO) ?_;rintro r H1 ⟨hx1,b,hb,ho⟩;have hok:=mY hn;have hsl:=tC p n;unfold de;generalize bx p n=L at ho hok hsl ⊢;obtain⟨aw,rfl⟩:=ho.len byO om;have hs1:=hs.ext (hxb.trans hx1);have hx01:=hxb.trans hx1;have hgb1:=hx1.get hgb;have hgz1:=hx1.get hgz;have hl1:=hx1.1;have hnl:=j1 hn;have hidn:n.i*128+fV n<C.length:=by rw[hs.len];exact Iq hn
 obtain⟨cn,hcn⟩:∃y,False\/C.getD (eS n) 0=y:=⟨_,.inr rfl⟩;have hatn:=nC hidn;have hcn2:C.getD (n.i*128+fV n) 0=cn:=hcn.resolve_left id;rw[hcn2]at hatn;rw[hcn.resolve_left id];clear hcn hcn2;refine aA ?_;have hxc:Ext H1 (H1++[some (rsC gM)]):=Ext.app _ _;have hgc:(H1++[some (rsC gM)]).get H1.length=some (rsC gM):=aF;change wpS cp lo _ _ _ (H1++[some (rsC gM)]);generalize H1++[some (rsC gM)]=H2 at hxc hgc;have hnoN:=fun H:Heap=>J5 (lo:=H.length) (H:=H) hn byO;refine aS (fun k S H'=>(Keep H1.length H2 H'/\H'.get H1.length=some (rsC ((L.take k).foldl (chS C cn) (gM,false)).1))/\∃(z:Nat->Value),S=[.slice ad p.length c,z 1,coV kb p,ptr H.length,ptr (H.length+1),.slice aw L.length L.length,ptr H1.length,.bool ((L.take k).foldl (chS C cn) (gM,false)).2,.int .i64 (k:Nat),z 9,z 10,z 11,z 12,z 13,z 14,z 15,z 16,z 17,z 18,z 19,z 20]) L.length ⟨⟨Ext.keep (Ext.refl _),hgc⟩,aH rfl⟩ ?_ ?_ ?_
 ·rintro k S H' hk ⟨_,z,rfl⟩
  exact⟨decide ((k:Int)<(L.length:Nat)),by simp(disch:=try exact dO)only[evB,xtr,Nat.reduceAdd,Nat.reduceBEq,Int.reduceToNat, *],by simp⟩
 ·rintro k S H3 hk ⟨⟨hk3,hg3⟩,z,rfl⟩
  clear hgc hgb hgz;have hx3:=hk3.ext hxc (Nat.le_refl _);have hl3:=hx3.1;have hs3:=hs1.ext hx3;have ho3:=ho.mono hx3;have hgb3:=hx3.get hgb1;obtain⟨p4,o4,X4,i4,g4,l4,e4⟩:=ho3.at byO om hk;replace i4:∀G,aJ (.iAddr 9) [.slice aw L.length L.length,.int .i64 (k:Nat)] G=some (.pointer (some ⟨p4,o4,none⟩)):=fun G=>by
   clear ho3 ho;rcases aw with _|⟨b0,o0,_|s0⟩<;>exact i4
  have hoo:=hok _ (List.getElem_mem hk);have hr:(L.take (k+1)).foldl (chS C cn) (gM,false)=chS C cn ((L.take k).foldl (chS C cn) (gM,false)) L[k]:=by
   rw[List.take_succ_eq_append_getElem hk,List.foldl_append];rfl
  rw[hr];clear hr;generalize (L.take k).foldl (chS C cn) (gM,false)=s at hg3 ⊢;generalize L[k]=x at e4 hoo ⊢;have hj:∀j,j<9->X4[o4+j]?=(rsC x)[j]?:=fun j hj=>by rw[<-e4,List.getElem?_take,if_pos hj,List.getElem?_drop]
  have f3:X4[o4+3]?=some (aB x.c):=hj 3 byO;have f4:X4[o4+4]?=some (aB x.to.i):=hj 4 byO;have f5:(X4.drop (o4+4)).take 5=rnC x.to:=by
   have h5:(X4.drop (o4+4)).take 5=((X4.drop o4).take 9).drop 4:=by rw[List.drop_take,List.drop_drop]
   rw[h5,e4];rfl
  clear hj;have hil:=hoo.to.i;have hnl2:=j1 hoo.to;have hxc2:=hoo.c;have hgC:=hs3.c;have hidx:x.to.i*128+fV x.to<C.length:=by have:=hs3.len;omega
  have hat:=nC hidx;have hle:=hs3.le (x.to.i*128+fV x.to);have hul:(uN C).length<=C.length/\C.length<=(uN C).length:=by simp
  have hlen:C.length<=(p.length+1)*128/\(p.length+1)*128<=C.length:=by have:=hs3.len;omega
  have hm2:chS C cn s x=if x.c+C.getD (x.to.i*128+fV x.to) 0=cn/\(s.2=false\/dt x s.1=true) then(x,true) else s:=rfl
  rw[hm2];clear hm2;have hno:=J5 (lo:=H3.length) (H:=H3) hoo.to byO;generalize C.getD (x.to.i*128+fV x.to) 0=y at hat hle ⊢;obtain⟨U,hU⟩:∃U,False\/uN C=U:=⟨_,.inr rfl⟩;have hatn':=hatn;rw[hU.resolve_left id]at hgC hat hul hatn';generalize fV x.to=nx at hat hidx hnl2 hno;generalize fV n=nn at hatn' hidn hnl hnoN;clear hatn;obtain⟨so,sb⟩:=s;simp only at hg3 ⊢;(try simp only[aD]);refine aU (t:=true) aN dP e9 (fun _=>⟨_,aN,?_⟩) (fun h=>by cases h);refine bS hno ?_;rintro r H4 ⟨hx4,rfl⟩;have hl4:=hx4.1;replace hgC:=hx4.get hgC;replace hgb3:=hx4.get hgb3;(try simp only[aD]);refine aU (t:=true) aN dP e9 (fun _=>⟨_,aN,?_⟩) (fun h=>by cases h);refine bS (hnoN H4) ?_;rintro r H5 ⟨hx5,rfl⟩;have hx35:=hx4.trans hx5;have hk5:Keep H1.length H2 H5:=az hk3 (.inl rfl) (Ext.keep hx35);have hl5:=hx35.1;replace g4:=hx35.get g4;replace hg3:=hx35.get hg3;replace hgC:=hx5.get hgC;have hgl5:=Heap.get_lt hg3;clear hno hnoN hgb3;obtain⟨tt,htt⟩:∃tt,(x.c:Int)+(y:Nat)=((tt:Nat):Int)/\x.c+y=tt/\tt<=1099511629776:=⟨x.c+y,byO,rfl,byO⟩;obtain⟨ht1,ht2,ht3⟩:=htt;rw[ht2];clear ht2;have hrw:rsC x=[aB x.w,.int .i64 x.s,.int .i64 x.t,aB x.c,aB x.to.i,aB x.to.m,aB x.to.ph,aB x.to.s,.bool x.to.u]:=rfl;have hset:List.set H5 H1.length (some (rsC x))=List.set H5 H1.length (some (rsC x)):=rfl;have hkk:Keep H1.length H2 (List.set H5 H1.length (some (rsC x))):=az hk5 (.inl rfl) keepSet;have hgg:Heap.get (List.set H5 H1.length (some (rsC x))) H1.length=some (rsC x):=aG byO;clear hset hrw;(try simp only[aD]);by_cases ht:tt=cn
  ·have hd:decide ((tt:Int)=(cn:Nat))=true:=decide_eq_true byO
   have hdn:((tt:Int)=(cn:Nat)):=byO;cases sb with
   | false=>
    rw[if_pos ⟨ht,.inl rfl⟩];replace ht:tt<=cn/\cn<=tt:=byO;refine aU (t:=false) aN dP e9 (fun h=>by cases h) (fun _=>?_);(try simp only[aD]);refine bL ?_;refine aA ?_;exact⟨⟨hkk,hgg⟩,aH ncM⟩
   | true=>
    have hor:(tt=cn/\(true=false\/dt x so=true))↔dt x so=true:=by simp[ht]
    simp only[hor];clear hor;replace ht:tt<=cn/\cn<=tt:=byO;refine aU (t:=true) aN dP e9 (fun _=>⟨_,aN,?_⟩) (fun h=>by cases h);refine eF (first:=#[]) (cap:=#[]) (args:=[rsV x,rsV so]) (R7 (lo:=lo) (H:=H5)) ?_;rintro r H6 ⟨hx6,rfl⟩;replace g4:=hx6.get g4;replace hg3:=hx6.get hg3;have hgl6:=Heap.get_lt hg3;have hkk6:Keep H1.length H2 (List.set H6 H1.length (some (rsC x))):=az (az hk5 (.inl rfl) (Ext.keep hx6)) (.inl rfl) keepSet;have hgg6:Heap.get (List.set H6 H1.length (some (rsC x))) H1.length=some (rsC x):=aG byO;have hk6:Keep H1.length H2 H6:=az hk5 (.inl rfl) (Ext.keep hx6);cases dt x so with
    | true=>
     rw[if_pos rfl];(try simp only[aD]);refine bL ?_;refine aA ?_;exact⟨⟨hkk6,hgg6⟩,aH ncM⟩
    | false=>
     rw[if_neg (by simp)];(try simp only[aD]);refine an ?_
     ·refine aA ?_
      exact⟨⟨hk6,hg3⟩,aH ncM⟩
  ·have hd:decide ((tt:Int)=(cn:Nat))=false:=decide_eq_false byO
   rw[if_neg (fun h=>ht h.1)];refine aU (t:=false) aN dP e9 (fun h=>by cases h) (fun _=>?_);(try simp only[aD]);refine aP ?_ ?_<;>intro h
   ·simp at h
   ·clear h
    refine aA ?_;exact⟨⟨hk5,hg3⟩,aH ncM⟩
 ·rintro S H3 ⟨⟨hk3,hg3⟩,z,rfl⟩
  rw[List.take_length]at hg3 ⊢;generalize (L.foldl (chS C cn) (gM,false)).1=o at hg3 ⊢;have hz3:=hk3.get (hxc.get hgz1) byO;have hlz:=Heap.get_lt hz3;have hx3:=hk3.ext (hx01.trans hxc) byO;refine aA ?_;refine aK ?_;exact⟨keepSet.ext hx3 byO,rfl⟩
end
def jj(l:List Nat)(k:Nat):Nat:=l.getD (k/6) 0/2^(5-k%6)%2
def pkR(l:List Nat):Nat->List Nat
 | 0=>List.replicate ((6*l.length+7)/8) 0
 | k+1=>if jj l k=1 then(pkR l k).set (k/8) ((pkR l k).getD (k/8) 0+2^(7-k%8)) else pkR l k
def cQ(l:List Nat):List Nat:=pkR l (6*l.length)
theorem qp(l:List Nat):∀k,(pkR l k).length=(6*l.length+7)/8
 | 0=>by simp[pkR]
 | k+1=>by unfold pkR;split<;>simp[qp l k]
theorem By{d:Nat}(h:d<=7):2^d<=128:=by
 have:d=0\/d=1\/d=2\/d=3\/d=4\/d=5\/d=6\/d=7:=byO;rcases this with rfl|rfl|rfl|rfl|rfl|rfl|rfl|rfl<;>decide
theorem AW(l:List Nat):∀k j,(pkR l k).getD j 0<=128*k
 | 0,j=>by simp only[pkR,au₀,List.getElem?_replicate];split<;>simp
 | k+1,j=>by
  have h0:=AW l k j;have h1:=AW l k (k/8);have h2:=By (d:=7-k%8) byO;unfold pkR;split
  ·by_cases hk:k/8<(pkR l k).length
   ·rw[mF hk]
    split<;>omega
   ·rw[List.set_eq_of_length_le byO];omega
  ·omega
theorem IE{x d:Nat}(hx:x<64)(hd:d<6):IntKind.i64.wrap ((BitVec.ofInt IntKind.i64.bits ((x:Int).fdiv (2^(min d IntKind.i64.bits))) &&& BitVec.ofInt IntKind.i64.bits 1).toNat:Int)=((x/2^d%2:Nat):Int):=by
 have h:∀x:Fin 64,∀d:Fin 6,IntKind.i64.wrap ((BitVec.ofInt IntKind.i64.bits ((x.val:Int).fdiv (2^(min d.val IntKind.i64.bits))) &&& BitVec.ofInt IntKind.i64.bits 1).toNat:Int)=((x.val/2^d.val%2:Nat):Int):=by decide
 exact h ⟨x,hx⟩ ⟨d,hd⟩
theorem J9{d:Nat}(hd:d<=7):IntKind.i64.wrap (1*2^(min d IntKind.i64.bits))=((2^d:Nat):Int):=by
 have h:∀d:Fin 8,IntKind.i64.wrap (1*2^(min d.val IntKind.i64.bits))=((2^d.val:Nat):Int):=by decide
 exact h ⟨d,byO⟩
section
variable {lo:Nat}{H:Heap}
open XYe
theorem Jf{w:Value}{b:Nat}{l:List Nat}(ho:Own lo 1 H w b (uN l))(hl:1<=l.length/\l.length<=100000)(hb:∀k,l.getD k 0<64)(hlo:lo<=H.length):Ev cp lo 52 [w] H (fun r H'=>Ext H H'/\r=.slice (some ⟨H.length,0,none⟩) ((6*l.length+7)/8) ((6*l.length+7)/8)/\H'.get H.length=some (uN (cQ l))):=by
 obtain⟨hl0,hl1⟩:=hl;obtain⟨rfl,hg⟩:w=.slice (some ⟨b,0,some 1⟩) l.length l.length/\H.get b=some (uN l):=by
  obtain⟨_,⟨_,h⟩|⟨n,_,hn,hw,hg⟩⟩:=ho
  ·have:=congrArg List.length h
   simp at this;subst this;simp at hl0
  ·have:n=l.length:=by simpa using hn
   subst this;exact⟨hw,hg⟩
 clear ho;have hbl:=Heap.get_lt hg;obtain⟨q,hq,hqN⟩:∃q,((6*(l.length:Int)+7).tdiv 8=((q:Nat):Int))/\(6*l.length+7)/8=q:=⟨(6*l.length+7)/8,by rw[Int.tdiv_eq_ediv_of_nonneg byO];omega,rfl⟩;have hqb:6*l.length<=8*q/\q<=100000:=byO;have hpl:∀k,(pkR l k).length=q:=fun k=>(qp l k).trans hqN;rw[hqN];have hp0:uN (pkR l 0)=List.replicate q (aB 0):=by
  show uN (List.replicate ((6*l.length+7)/8) 0)=_;rw[hqN,uN,List.map_replicate]
 clear hqN;unfold cQ;replace hpl:False\/_:=.inr hpl;replace hp0:False\/_:=.inr hp0;refine stG rfl rfl ?_;unfold QV;simp only[kB,aD];refine aA ?_;have hxb:Ext H (H++[some (aW (List.replicate q 0))]):=Ext.app _ _;have hgb:(H++[some (aW (List.replicate q 0))]).get H.length=some (uN (pkR l 0)):=by
  rw[aF,hp0.resolve_left id];simp[aW]
 generalize H++[some (aW (List.replicate q 0))]=Hb at hxb hgb;refine aS (fun k S H'=>(Ext H H'/\H'.get H.length=some (uN (pkR l k)))/\∃(z:Nat->Value),S=[.slice (some ⟨b,0,some 1⟩) l.length l.length,z 1,.slice (some ⟨H.length,0,none⟩) q q,.int .i64 (k:Nat),z 4]) (6*l.length) ⟨⟨hxb,hgb⟩,aH rfl⟩ ?_ ?_ ?_
 ·rintro k S H' hk ⟨_,z,rfl⟩
  exact⟨decide ((k:Int)<6*(l.length:Nat)),by simp(disch:=try exact dO)only[evB,xtr,Nat.reduceAdd,Nat.reduceBEq,Int.reduceToNat, *],by simp;omega⟩
 ·rintro k S H1 hk ⟨⟨hx1,hg1⟩,z,rfl⟩
  clear hxb hgb;have hgl:=hx1.get hg;have hl1:=Heap.get_lt hg1;have q1:(k:Int).tdiv 6=((k/6:Nat):Int):=by rw[Int.tdiv_eq_ediv_of_nonneg byO];omega
  have q2:(k:Int).tdiv 8=((k/8:Nat):Int):=by rw[Int.tdiv_eq_ediv_of_nonneg byO];omega
  have q3:5-(k:Int).tmod 6=((5-k%6:Nat):Int):=by rw[Int.tmod_eq_emod_of_nonneg byO];omega
  have q4:7-(k:Int).tmod 8=((7-k%8:Nat):Int):=by rw[Int.tmod_eq_emod_of_nonneg byO];omega
  have hb1:=hb (k/6);have hk6:k/6<l.length:=byO;have hk8:k/8<q:=byO;have hat:=nC hk6;have hba:=IE (d:=5-k%6) hb1 byO;have hbr:jj l k=l.getD (k/6) 0/2^(5-k%6)%2:=rfl;have hst:pkR l (k+1)=if jj l k=1 then(pkR l k).set (k/8) ((pkR l k).getD (k/8) 0+2^(7-k%8)) else pkR l k:=rfl
  have hlek:=AW l k (k/8);have hlk:=hpl.resolve_left id k;have h2p:=By (d:=7-k%8) byO;have hsh:=J9 (d:=7-k%8) byO;rw[hst];rw[<-hbr]at hba;clear hst hbr;have hbl:jj l k<2:=Nat.mod_lt _ byO;have hat2:=nC (cs:=pkR l k) (k:=k/8) byO;generalize jj l k=bt at hba hbl ⊢;generalize pkR l k=P at hg1 hlek hlk hat2 ⊢;generalize P.getD (k/8) 0=y at hat2 hlek ⊢;generalize l.getD (k/6) 0=x at hat hba hb1;have hd5:5-k%6<=5:=byO;generalize 5-k%6=d5 at q3 hba hd5;have hd7:7-k%8<=7:=byO;generalize 7-k%8=d7 at q4 hsh h2p hd7 ⊢;generalize 2^d7=pw at hsh h2p ⊢;have hsets:False\/(uN P).set (k/8) (aB (y+pw))=uN (P.set (k/8) (y+pw)):=.inr (by simp[uN,List.map_set]);have hul:(uN P).length<=q/\q<=(uN P).length:=by simp;omega
  have hul2:(uN l).length<=l.length/\l.length<=(uN l).length:=by simp
  obtain⟨Y,hY⟩:∃Y,False\/uN P=Y:=⟨_,.inr rfl⟩;rw[hY.resolve_left id]at hg1 hat2 hsets hul;obtain⟨UL,hUL⟩:∃UL,False\/uN l=UL:=⟨_,.inr rfl⟩;rw[hUL.resolve_left id]at hat hul2 hgl;generalize k/8=k8 at *;generalize k/6=k6 at *;(try simp only[aD]);by_cases hbt:bt=1
  ·have hd:decide ((bt:Int)=1)=true:=decide_eq_true byO
   rw[if_pos hbt];refine bL ?_;refine aA ?_;have hs:Y.set k8 (Value.int .i64 ((y:Int)+(pw:Nat)))=uN (P.set k8 (y+pw)):=by rw[<-hsets.resolve_left id];rfl
   have hk7:Keep H.length H1 (List.set H1 H.length (some (Y.set k8 (Value.int .i64 ((y:Int)+(pw:Nat)))))):=keepSet;have hg7:Heap.get (List.set H1 H.length (some (Y.set k8 (Value.int .i64 ((y:Int)+(pw:Nat)))))) H.length=some (Y.set k8 (Value.int .i64 ((y:Int)+(pw:Nat)))):=aG byO;exact⟨⟨hk7.ext hx1 (Nat.le_refl _),by rw[hg7,hs]⟩,aH ncM⟩
  ·have hd:decide ((bt:Int)=1)=false:=decide_eq_false byO
   rw[if_neg hbt];refine an ?_
   ·refine aA ?_
    exact⟨⟨hx1,by rw[hY.resolve_left id];exact hg1⟩,aH ncM⟩
 ·rintro S H1 ⟨⟨hx1,hg1⟩,z,rfl⟩
  refine aA ?_;refine aK ?_;exact⟨hx1,rfl,hg1⟩
end
theorem AF{a b c:RS}(h:dt a b=true)(g:dt b c=true):dt a c=true:=by
 grind[dt]
theorem xI{C:List Nat}{t:Nat}:∀(L D:List RS) (s:RS×Bool),
  ((s.2=false/\∀x ∈ D,eX C x≠t)\/(s.2=true/\s.1 ∈ D/\eX C s.1=t/\∀y ∈ D,eX C y=t->dt y s.1=false)) ->
  (((L.foldl (chS C t) s).2=false/\∀x ∈ D++L,eX C x≠t)\/((L.foldl (chS C t) s).2=true/\(L.foldl (chS C t) s).1 ∈ D++L/\eX C (L.foldl (chS C t) s).1=t/\∀y ∈ D++L,eX C y=t->dt y (L.foldl (chS C t) s).1=false))
 | [],D,s,h=>by simpa using h
 | x::L,D,s,h=>by
  have ir:dt x x=false:=by simp[dt]
  have key:(((chS C t s x).2=false/\∀y ∈ D++[x],eX C y≠t)\/((chS C t s x).2=true/\(chS C t s x).1 ∈ D++[x]/\eX C (chS C t s x).1=t/\∀y ∈ D++[x],eX C y=t->dt y (chS C t s x).1=false)):=by
   grind[chS,AF]
  have:=xI L (D++[x]) (chS C t s x) key
  simp_all
def rU(p:List UInt8)(n:RN):Prop:=n.m=0/\n.i=p.length
theorem kT{C:List Nat}{n:RN}(h:SolR p C)(hn:n.ok p.length)(hf:C.getD (eS n) 0<1099511627776)(he:¬ rU p n) :
  de p n C ∈ bx p n/\eX C (de p n C)=C.getD (eS n) 0/\∀y ∈ bx p n,eX C y=C.getD (eS n) 0->dt y (de p n C)=false:=by
 have hc:=xI (C:=C) (t:=C.getD (eS n) 0) (bx p n) [] (gM,false) (.inl ⟨rfl,by simp⟩);rcases hc with ⟨_,h2⟩|⟨_,h2,h3,h4⟩
 ·have e:=h.eq n hn
  rcases Aw (p:=p) (n:=n) (C:=C)with g|⟨x,hx,g⟩
  ·unfold mi at g
   rw[if_neg (show ¬ (n.m=0/\n.i=p.length) from he)]at g;omega
  grind
 ·exact⟨h2,h3,h4⟩
theorem eZ{p:List UInt8}{n:RN}{x:RS}:∀k,k<=40->x ∈ eY p n k->(x=⟨254,-1,-1,1,⟨n.i,0,0,0,false⟩⟩/\n.ph=0)\/∃v t,v<k/\dW p n v=some t/\x=⟨v,-1,-1,if n.ph=0 then 2 else 0,t⟩
 | 0,_,hx=>by
  unfold eY at hx;split at hx
  ·rename_i h
   exact .inl ⟨List.mem_singleton.1 hx,h⟩
  ·cases hx
 | k+1,hk,hx=>by
  unfold eY at hx;rcases List.mem_append.1 hx with hx|hx
  ·rcases eZ k byO hx with h|⟨v,t,h1,h2,h3⟩
   ·exact .inl h
   ·exact .inr ⟨v,t,byO,h2,h3⟩
  ·cases hu:dW p n k with
   | none=>rw[hu]at hx;cases hx
   | some t=>
    rw[hu]at hx;exact .inr ⟨k,t,byO,hu,List.mem_singleton.1 hx⟩
theorem tI{n t:RN}{v:Nat}(h:dW p n v=some t):t.m=n.m/\t.ph=(n.ph+1)%3:=by
 grind[dW]
def StA(p:List UInt8)(n:RN)(x:RS):Prop:=(∃d,(1<=d/\d<=1749)/\n.i+d<=p.length/\x=dJ n.i d)\/(x.w≠231/\x.t=-1/\x.to.ph=0/\((x.s=-1/\x.c=1)\/(∃d:Nat,d<=255/\x.s=(d:Int)/\x.c=2)))
theorem jg{n:RN}{x:RS}(hn:n.ok p.length)(hx:x ∈ dI p n.i):StA p n x:=by
 unfold dI at hx;simp only[be₀]at hx;rcases hx with (((hx|hx)|hx)|hx)|hx
 ·unfold iN at hx
  split at hx
  ·rename_i hc
   obtain⟨h1,h2,h3⟩:=hc;have h2:=dF.1 h2;have h3:=dF.1 h3;obtain rfl:=List.mem_singleton.1 hx;exact .inr ⟨by grind,rfl,rfl,.inl ⟨rfl,rfl⟩⟩
  ·cases hx
 ·unfold oU at hx
  split at hx
  ·obtain rfl:=List.mem_singleton.1 hx
   exact .inr ⟨by grind,rfl,rfl,.inl ⟨rfl,rfl⟩⟩
  ·cases hx
 ·unfold jw at hx
  split at hx
  ·have:=qA p n.i
   obtain rfl:=List.mem_singleton.1 hx;exact .inr ⟨by simp,rfl,rfl,.inr ⟨_,byO,rfl,rfl⟩⟩
  ·cases hx
 ·obtain⟨j,hj,rfl⟩:=List.mem_map.1 hx
  refine .inr ⟨?_,rfl,rfl,.inl ⟨rfl,rfl⟩⟩
  grind[yF]
 ·obtain⟨j,hj,rfl⟩:=List.mem_map.1 hx
  have:=List.mem_range.1 hj;exact .inl ⟨j+1,byO,byO,rfl⟩
theorem lO{n:RN}{x:RS}(hx:x ∈ xi p n):x.c=me n/\((x=⟨31,-1,-1,me n,asR n.i⟩)\/((n.i<p.length/\32<=by' p n.i/\by' p n.i<=94)/\x=⟨by' p n.i%64,-1,-1,me n,⟨n.i+1,4,(n.ph+1)%4,0,false⟩⟩)):=by
 grind[xi]
def rkR(n:RN):Nat:=if n.m=0 then 0 else if n.m=4 then(if n.ph=3 then 1 else 0) else(if n.ph=0 then 0 else 3-n.ph)
def mea(C:List Nat)(n:RN):Nat:=4*C.getD (eS n) 0+rkR n
def ot(p:List UInt8)(W:List Nat)(i:Nat):Nat->List Nat
 | 0=>W
 | k+1=>ot p W i k++[(by' p (i+k)+msk (ot p W i k).length)%256]
theorem ov(p:List UInt8)(W:List Nat)(i:Nat):∀k,(ot p W i k).length=W.length+k
 | 0=>rfl
 | k+1=>by simp[ot,ov p W i k];omega
def HC(x:RS)(W:List Nat):List Nat:=W++[(x.s.toNat+msk W.length)%256]
def wk(x:RS)(W:List Nat):List Nat:=if 0<=x.t then W++[(x.t.toNat+msk W.length)%256] else W
def trR(Pt:List Nat)(w:Nat):Nat:=1600*Pt.getD 0 0+40*Pt.getD 1 0+w+1
def eQ(p:List UInt8)(n:RN)(x:RS)(W Pt:List Nat):List Nat×List Nat:=
 if n.m=0 then
  if x.w=231 then(ot p (wk x (HC x (W++[231]))) n.i (x.to.i-n.i),Pt)
  else(W++[x.w]++if 0<=x.s then[x.s.toNat] else[],Pt)
 else if n.m=4 then if x.w=31 then(W++cQ (Pt++[31]),[]) else(W,Pt++[x.w])
 else if x.w=254 then(W++[254],Pt)
 else if Pt.length=2 then(W++[trR Pt x.w/256,trR Pt x.w%256],[]) else(W,Pt++[x.w])
def mf(p:List UInt8)(C:List Nat):Nat->RN->List Nat->List Nat->List Nat
 | 0,_,W,_=>W
 | f+1,n,W,Pt=>if n.m≠0\/n.i<p.length then mf p C f (de p n C).to (eQ p n (de p n C) W Pt).1 (eQ p n (de p n C) W Pt).2 else W
structure InvR (p:List UInt8)(C:List Nat)(B:Nat)(n:RN)(W Pt:List Nat):Prop where
 ok:n.ok p.length
 fin:C.getD (eS n) 0<1099511627776
 pt0:n.m=0->Pt=[]
 pt3:1<=n.m/\n.m<=3->Pt.length=n.ph
 ptv:∀k,Pt.getD k 0<64
 sz:W.length+Pt.length+2*mea C n<=B
theorem pY(l:List Nat):(cQ l).length=(6*l.length+7)/8:=qp _ _
theorem mG{l:List Nat}{x B:Nat}(h:∀k,l.getD k 0<B)(hx:x<B):∀k,(l++[x]).getD k 0<B:=by
 intro k;by_cases hk:k<l.length
 ·have:=h k
  grind
 grind
theorem tB{C:List Nat}{n:RN}{x:RS}(hn:n.ok p.length)(hx:x ∈ bx p n)(ht:eX C x=C.getD (eS n) 0):mea C x.to<mea C n/\mea C x.to+4*x.c<=mea C n+rkR x.to:=by
 have hi:eX C x=x.c+C.getD (eS x.to) 0:=rfl;obtain⟨h3,h4,h5⟩:=hn.ph;have hr:rkR x.to<=3:=by grind[rkR]
 unfold mea;by_cases hc:1<=x.c
 ·omega
 ·suffices rkR x.to<rkR n by omega
  unfold bx at hx;split at hx
  ·rcases jg hn hx with ⟨d,_,_,rfl⟩|⟨_,_,_,⟨_,h⟩|⟨_,_,_,h⟩⟩
   all_goals grind[dJ]
  ·split at hx
   ·rcases eZ 40 byO hx with ⟨rfl,_⟩|⟨v,t,_,hu,rfl⟩
    all_goals grind[tI,rkR]
   ·obtain⟨hcc,hx⟩:=lO hx
    have hp3:n.ph=3:=by
     grind[me]
    have hrn:rkR n=1:=by grind[rkR]
    rw[hrn];rcases hx with rfl|⟨_,rfl⟩
    ·exact Nat.zero_lt_one
    grind[rkR]
theorem Fj{C:List Nat}{B:Nat}{n:RN}{x:RS}{W Pt:List Nat}(h:InvR p C B n W Pt)(hx:x ∈ bx p n)(ht:eX C x=C.getD (eS n) 0):InvR p C B x.to (eQ p n x W Pt).1 (eQ p n x W Pt).2:=by
 obtain⟨hn,hf,g0,g3,gv,gs⟩:=h;have hok:=(mY hn x hx).to;obtain⟨hm1,hm2⟩:=tB hn hx ht;have hi:eX C x=x.c+C.getD (eS x.to) 0:=rfl;have hfx:C.getD (eS x.to) 0<1099511627776:=byO;obtain⟨h3,h4,h5⟩:=hn.ph;have h2:=hn.m;unfold bx at hx;unfold eQ;by_cases hm0:n.m=0
 ·rw[if_pos hm0]at hx
  rw[if_pos hm0];have hp:=g0 hm0;subst hp;rcases jg hn hx with ⟨d,hd,hdl,rfl⟩|⟨hw,_,hph,hs⟩
  ·have hw:(dJ n.i d).w=231:=by grind[dJ]
   have hto:(dJ n.i d).to=asR (n.i+d):=by grind[dJ]
   rw[if_pos hw];have hrk:rkR (dJ n.i d).to=0:=by rw[hto];rfl
   refine⟨hok,hfx,fun _=>rfl,fun e=>?_,gv,?_⟩
   all_goals grind[asR,wk,dJ,HC,ov]
  ·rw[if_neg hw]
   have hrk:rkR x.to=0:=by grind[rkR]
   refine⟨hok,hfx,fun _=>rfl,fun e=>by rw[hph];rfl,gv,?_⟩
   grind
 ·rw[if_neg hm0]at hx
  rw[if_neg hm0];by_cases hm4:n.m=4
  ·rw[if_neg byO]at hx
   rw[if_pos hm4];obtain⟨hcc,hx⟩:=lO hx;rcases hx with rfl|⟨⟨e1,e2,e3⟩,rfl⟩
   ·simp 
    refine⟨hok,hfx,fun _=>rfl,fun e=>rfl,by simp,?_⟩
    grind[pY]
   ·simp only
    rw[if_neg byO];refine⟨hok,hfx,fun e=>by simp at e,fun e=>by simp at e,mG gv byO,?_⟩
    grind
  ·rw[if_pos hm4]at hx
   rw[if_neg hm4];rcases eZ 40 byO hx with ⟨rfl,hph⟩|⟨v,t,hv,hu,rfl⟩
   ·simp 
    have hpn:Pt=[]:=List.eq_nil_of_length_eq_zero byO;subst hpn;refine⟨hok,hfx,fun _=>rfl,fun e=>by simp at e,gv,?_⟩
    grind
   ·obtain⟨e1,e2⟩:=tI hu
    simp only at hm1 hm2 hfx hok ⊢;rw[if_neg byO];by_cases hl:Pt.length=2
    ·rw[if_pos hl]
     refine⟨hok,hfx,fun _=>rfl,fun e=>?_,by simp,?_⟩
     all_goals grind
    ·rw[if_neg hl]
     refine⟨hok,hfx,fun e=>byO,fun e=>?_,mG gv byO,?_⟩
     all_goals grind
theorem JE{i:Nat}(hi:i<p.length):∃x ∈ dI p i,x.c<=2/\x.to=asR (i+1):=by
 unfold dI;by_cases h:by' p i<128
 ·refine⟨⟨by' p i+1,-1,-1,1,asR (i+1)⟩,?_,by simp,rfl⟩
  simp only[be₀];refine .inl (.inl (.inl (.inr ?_)));unfold oU;rw[if_pos ⟨hi,h⟩];simp
 ·refine⟨⟨235,(by' p i-127:Nat),-1,2,asR (i+1)⟩,?_,by simp,rfl⟩
  simp only[be₀];refine .inl (.inl (.inr ?_));unfold jw;rw[if_pos ⟨hi,byO⟩];simp
theorem mC{p:List UInt8}{C:List Nat}(h:SolR p C):∀m i,i+m=p.length->C.getD (eS (asR i)) 0<=2*m
 | 0,i,e=>by
  rw[h.eq _ (gO byO)]
  grind[q9,mi,asR]
 | m+1,i,e=>by
  have h3:=mC h m (i+1) byO;obtain⟨x,hx,hc,hto⟩:=JE (p:=p) (i:=i) byO;rw[h.eq _ (gO byO)];have:=pF (p:=p) (n:=asR i) (C:=C) (x:=x) (by assumption)
  grind[eX,eS]
theorem DB{C:List Nat}(h:SolR p C)(hl:p.length<=4096):InvR p C 70000 (asR 0) [] []:=by
 have:=mC h p.length 0 byO;refine⟨gO byO,byO,fun _=>rfl,fun e=>rfl,by simp,?_⟩
 grind[rkR,mea]
structure StE (lo nb xb:Nat)(G H:Heap)(n:RN)(x:RS)(w q:Value)(W Pt:List Nat):Prop where
 ext:Ext G H
 gn:H.get nb=some (rnC n)
 gx:H.get xb=some (rsC x)
 lb:lo<=G.length
 nn:G.length<=nb/\G.length<=xb/\nb≠xb
 tw:∃bw bq,(G.length<=bw/\G.length<=bq)/\(Own lo 1 H w bw (uN W)/\Own lo 1 H q bq (uN Pt))/\(W≠[]->bw≠nb/\bw≠xb)/\(Pt≠[]->bq≠nb/\bq≠xb)/\(W≠[]->Pt≠[]->bw≠bq)
theorem o6{lo b:Nat}(h:Own lo 1 H v b (uN [])):v=.slice none 0 0:=by
 obtain⟨_,⟨h,_⟩|⟨n,h0,h1,_⟩⟩:=h
 ·exact h
 ·simp at h1;omega
theorem pX{lo b:Nat}{W:List Nat}(h:Own lo 1 H v b (uN W))(hW:W≠[]):b<H.length:=by
 obtain⟨_,⟨_,h⟩|⟨n,h0,h1,_,hg⟩⟩:=h
 ·exact absurd (List.map_eq_nil_iff.1 h) hW
 ·exact Heap.get_lt hg
theorem G4{lo b:Nat}{W:List Nat}(h:Own lo 1 H v b (uN W)):∃a,v=.slice a W.length W.length:=by
 obtain⟨a,n,rfl,h1,_⟩:=h.len byO;have:n=W.length:=by simpa using h1
 subst this;exact⟨a,rfl⟩
section
variable {lo nb xb:Nat}{G H:Heap}{n:RN}{x:RS}{w q:Value}{W Pt:List Nat}
theorem StE.mono{H':Heap}(h:StE lo nb xb G H n x w q W Pt)(e:Ext H H'):StE lo nb xb G H' n x w q W Pt:=by
 obtain⟨bw,bq,h1,⟨h2,h3⟩,h4⟩:=h.tw;exact⟨h.ext.trans e,e.get h.gn,e.get h.gx,h.lb,h.nn,bw,bq,h1,⟨h2.mono e,h3.mono e⟩,h4⟩
theorem StE.swap(h:StE lo nb xb G H n x w q W Pt):StE lo nb xb G H n x q w Pt W:=by
 obtain⟨bw,bq,h1,⟨h2,h3⟩,h4,h5,h6⟩:=h.tw;exact⟨h.ext,h.gn,h.gx,h.lb,h.nn,bq,bw,⟨h1.2,h1.1⟩,⟨h3,h2⟩,h5,h4,fun a b e=>h6 b a e.symm⟩
theorem StE.sl(h:StE lo nb xb G H n x w q W Pt):∃a,w=.slice a W.length W.length:=by
 obtain⟨bw,bq,h1,⟨h2,h3⟩,h4⟩:=h.tw;exact G4 h2
theorem StE.nil(h:StE lo nb xb G H n x w q W Pt):StE lo nb xb G H n x w (.slice none 0 0) W []:=by
 obtain⟨bw,bq,h1,⟨h2,h3⟩,h4,h5,h6⟩:=h.tw;have:=h.lb;exact⟨h.ext,h.gn,h.gx,h.lb,h.nn,bw,bq,h1,⟨h2,Own.nil byO⟩,h4,fun e=>absurd rfl e,fun _ e=>absurd rfl e⟩
theorem StE.node{n':RN}(h:StE lo nb xb G H n x w q W Pt){H':Heap}(hk:Keep nb H H')(hg:H'.get nb=some (rnC n')):StE lo nb xb G H' n' x w q W Pt:=by
 obtain⟨bw,bq,h1,⟨h2,h3⟩,h4,h5,h6⟩:=h.tw;refine⟨hk.ext h.ext h.nn.1,hg,hk.get h.gx (fun e=>h.nn.2.2 e.symm),h.lb,h.nn,bw,bq,h1,⟨?_,?_⟩,h4,h5,h6⟩
 ·by_cases e:W=[]
  ·subst e
   rw[o6 h2];exact Own.nil h2.1
  ·exact h2.keep hk (h4 e).1
 ·by_cases e:Pt=[]
  ·subst e
   rw[o6 h3];exact Own.nil h3.1
  ·exact h3.keep hk (h5 e).1
theorem StE.appW{cp:FuncId->Option CF}{z:List Value}{t o d m:Nat}{sp:Option Nat}{L:List Nat}{X:List Value}{R:Value->Heap->Prop}(h:StE lo nb xb G H n x w q W Pt)(ht:H.get t=some X)(hX:(X.drop o).take d=uN L)(hd:0<d/\d<=1000000)(hL:L.length=d)(hoX:o+d<=X.length)(hW:W.length<=1000000)
  (k:∀w' H',StE lo nb xb G H' n x w' q (W++L) Pt->H.length<=H'.length->R w' H'):wpH cp lo (.app 1 z) [w,.slice (some ⟨t,o,sp⟩) d m] H R:=by
 obtain⟨bw,bq,g1,⟨g2,g3⟩,g4,g5,g6⟩:=h.tw;have hlo:=h.lb;have hx:=h.ext.1;have hnl:=Heap.get_lt h.gn;have hxl:=Heap.get_lt h.gx;have hnn:=h.nn;obtain⟨b0,hb0,hb1,hb2⟩:∃b0,Own lo 1 H w b0 (uN W)/\(W=[]->b0=H.length+1)/\(W≠[]->b0=bw):=by
  by_cases e:W=[]
  ·subst e
   rw[o6 g2];exact⟨H.length+1,Own.nil byO,fun _=>rfl,fun e=>absurd rfl e⟩
  ·exact⟨bw,g2,fun h=>absurd h e,fun _=>rfl⟩
 refine di hb0 byO byO hd.1 (by simp only[ay₀];omega) ht byO (c:=uN L) (by rw[Nat.mul_one];exact hX) (Rm L) ?_;intro v' H' ho' hk hl;refine k v' H' ⟨?_,?_,?_,hlo,hnn,H.length,bq,⟨byO,g1.2⟩,⟨by rw[uN,List.map_append];exact ho',?_⟩,fun _=>⟨byO,byO⟩,g5,fun _ e=>?_⟩ byO
 ·refine hk.ext h.ext ?_
  by_cases e:W=[]
  ·rw[hb1 e];omega
  ·rw[hb2 e];exact g1.1
 ·refine hk.get h.gn ?_
  by_cases e:W=[]
  ·rw[hb1 e];omega
  ·rw[hb2 e];exact fun a=>(g4 e).1 a.symm
 ·refine hk.get h.gx ?_
  by_cases e:W=[]
  ·rw[hb1 e];omega
  ·rw[hb2 e];exact fun a=>(g4 e).2 a.symm
 ·by_cases e2:Pt=[]
  ·subst e2
   rw[o6 g3];exact Own.nil g3.1
  ·refine g3.keep hk ?_
   have:=pX g3 e2;by_cases e:W=[]
   ·rw[hb1 e];omega
   ·rw[hb2 e];exact fun a=>g6 e e2 a.symm
 ·have:=pX g3 e
  omega
theorem StE.litW{cp:FuncId->Option CF}{z:List Value}{d:Nat}{L:List Nat}{R:Value->Heap->Prop}(h:StE lo nb xb G H n x w q W Pt)(hL:L.length=d)(hd:0<d/\d<=1000000)(hW:W.length<=1000000)
  (k:∀w' H',StE lo nb xb G H' n x w' q (W++L) Pt->H.length<=H'.length->R w' H'):wpH cp lo (.app 1 z) [w,.slice (some ⟨H.length,0,none⟩) d d] (H++[some (uN L)]) R:=by
 refine(h.mono (Ext.app _ _)).appW (L:=L) aF (by rw[List.drop_zero,List.take_of_length_le (by simp;omega)]) hd hL (by simp;omega) hW ?_;intro w' H' h' hl;exact k w' H' h' (by simp at hl;omega)
theorem StE.litP{cp:FuncId->Option CF}{z:List Value}{d:Nat}{L:List Nat}{R:Value->Heap->Prop}(h:StE lo nb xb G H n x w q W Pt)(hL:L.length=d)(hd:0<d/\d<=1000000)(hW:Pt.length<=1000000)
  (k:∀q' H',StE lo nb xb G H' n x w q' W (Pt++L)->H.length<=H'.length->R q' H'):wpH cp lo (.app 1 z) [q,.slice (some ⟨H.length,0,none⟩) d d] (H++[some (uN L)]) R:=
 h.swap.litW hL hd hW fun w' H' h' hl=>k w' H' h'.swap hl
structure HdE (lo nb:Nat)(G H:Heap)(n:RN)(w q:Value)(W Pt:List Nat):Prop where
 ext:Ext G H
 gn:H.get nb=some (rnC n)
 lb:lo<=G.length
 nn:G.length<=nb
 tw:∃bw bq,(G.length<=bw/\G.length<=bq)/\(Own lo 1 H w bw (uN W)/\Own lo 1 H q bq (uN Pt))/\(W≠[]->bw≠nb)/\(Pt≠[]->bq≠nb)/\(W≠[]->Pt≠[]->bw≠bq)
theorem HdE.st{H':Heap}(h:HdE lo nb G H n w q W Pt)(e:Ext H H')(h2:H'.get xb=some (rsC x))(hx:H.length<=xb):StE lo nb xb G H' n x w q W Pt:=by
 obtain⟨bw,bq,g1,⟨g2,g3⟩,g4,g5,g6⟩:=h.tw;have:=h.nn;have:=h.ext.1;have:=Heap.get_lt h.gn;refine⟨h.ext.trans e,e.get h.gn,h2,h.lb,⟨byO,byO,byO⟩,bw,bq,g1,⟨g2.mono e,g3.mono e⟩,fun a=>?_,fun a=>?_,g6⟩
 ·have:=pX g2 a
  have:=g4 a;omega
 ·have:=pX g3 a
  have:=g5 a;omega
theorem StE.hd{H':Heap}{nb':Nat}{n':RN}(h:StE lo nb xb G H n x w q W Pt)(e:Ext H H')(h1:H'.get nb'=some (rnC n'))(hn:H.length<=nb'):HdE lo nb' G H' n' w q W Pt:=by
 obtain⟨bw,bq,g1,⟨g2,g3⟩,g4,g5,g6⟩:=h.tw;have:=h.ext.1;refine⟨h.ext.trans e,h1,h.lb,byO,bw,bq,g1,⟨g2.mono e,g3.mono e⟩,fun a=>?_,fun a=>?_,g6⟩
 ·have:=pX g2 a
  omega
 ·have:=pX g3 a
  omega
theorem HdE.start(hlo:lo<=H.length):HdE lo H.length H (H++[some (rnC n)]) n (.slice none 0 0) (.slice none 0 0) [] []:=
 ⟨Ext.app _ _,aF,hlo,Nat.le_refl _,H.length,H.length,⟨Nat.le_refl _,Nat.le_refl _⟩,⟨Own.nil hlo,Own.nil hlo⟩,fun e=>absurd rfl e,fun e=>absurd rfl e,fun e=>absurd rfl e⟩
end
end Go.Proofs.YtmnlgdpdgjbfgaaGreat
