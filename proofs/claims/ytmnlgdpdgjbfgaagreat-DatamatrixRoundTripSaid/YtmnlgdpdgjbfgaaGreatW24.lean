/- Lemmas. -/
import Derived.Test.YtmnlgdpdgjbfgaaGreatW23
set_option linter.all false
namespace Go.Proofs.YtmnlgdpdgjbfgaaGreat
open Go.Abs
variable{i:Nat}
set_option maxRecDepth 20000
def jT(i:Nat)(s:List Nat×Bool)(o:Opt):List Nat×Bool:=if bh s.1 o<s.1.getD i 0 then(s.1.set i (bh s.1 o),true) else s
def eG(i:Nat)(L:List Opt)(s:List Nat×Bool):List Nat×Bool:=L.foldl (jT i) s
def round(L:Nat->List Opt)(a:Nat):Nat->List Nat×Bool->List Nat×Bool
 | 0,s=>s
 | k+1,s=>eG (a*19+k) (L k) (round L a k s)
inductive Stl (L:Nat->List Opt) (a:Nat):List Nat->List Nat->Prop
 | done {c c':List Nat}:round L a 19 (c,false)=(c',false)->Stl L a c c'
 | more {c d c':List Nat}:round L a 19 (c,false)=(d,true)->Stl L a d c'->Stl L a c c'
theorem iR{l:List Nat}{i j x:Nat}(h:i<l.length):(l.set i x).getD j 0=if j=i then x else l.getD j 0:=by
 simp only[au₀,List.getElem?_set];by_cases e:i=j
 ·subst e;simp[h]
 ·rw[if_neg e,if_neg (fun e'=>e e'.symm)]
theorem Ai{l:List Nat}(h:l.length<=i):l.getD i 0=0:=by simp[au₀,h]
theorem B8:∀{l:List Nat} {i x:Nat},i<l.length->(l.set i x).sum+l.getD i 0=l.sum+x
 | y::l,0,x,_=>by simp only[List.set_cons_zero,List.sum_cons,List.getD_cons_zero];omega
 | y::l,i+1,x,h=>by
  have:=B8 (l:=l) (i:=i) (x:=x) (by simpa using h);simp only[List.set_cons_succ,List.sum_cons,List.getD_cons_succ];omega
structure Stp (i:Nat)(s t:List Nat×Bool):Prop where
 len:t.1.length=s.1.length
 le:∀j,t.1.getD j 0<=s.1.getD j 0
 ne:∀j,j≠i->t.1.getD j 0=s.1.getD j 0
 sum:t.1.sum<=s.1.sum
 fl:t.2=true->s.2=true\/t.1.sum<s.1.sum
 fl2:s.2=true->t.2=true
theorem uT(i:Nat)(s:List Nat×Bool)(o:Opt):Stp i s (jT i s o):=by
 unfold jT;split
 ·rename_i h
  have hi:i<s.1.length:=by
   refine Decidable.byContradiction fun hn=>?_;rw[Ai byO]at h;omega
  have hs:=B8 (x:=bh s.1 o) hi;refine⟨by simp,fun j=>?_,fun j hj=>?_,by simp only;omega,fun _=>.inr (by simp only;omega),fun _=>rfl⟩
  ·simp only[iR hi];split
   ·rename_i e;subst e;omega
   ·exact Nat.le_refl _
  ·simp only[iR hi,if_neg hj]
 ·exact⟨rfl,fun _=>Nat.le_refl _,fun _ _=>rfl,Nat.le_refl _,fun h=>.inl h,fun h=>h⟩
theorem nY{P:List Nat×Bool->Prop}{i:Nat}:∀{L:List Opt} {s:List Nat×Bool},P s->(∀t o,o ∈ L->P t->P (jT i t o))->P (eG i L s)
 | [],s,h,_=>h
 | o::L,s,h,hs=>nY (L:=L) (s:=jT i s o) (hs s o (by simp) h) fun t o' h'=>hs t o' (List.mem_cons_of_mem _ h')
theorem AD{A B:List Opt}{s:List Nat×Bool}:eG i (A++B) s=eG i B (eG i A s):=by unfold eG;rw[List.foldl_append]
structure Row (a:Nat)(s t:List Nat×Bool):Prop where
 len:t.1.length=s.1.length
 le:∀j,t.1.getD j 0<=s.1.getD j 0
 ne:∀j,(j<a*19\/a*19+19<=j)->t.1.getD j 0=s.1.getD j 0
 sum:t.1.sum<=s.1.sum
 fl:t.2=true->s.2=true\/t.1.sum<s.1.sum
 fl2:s.2=true->t.2=true
theorem Row.refl(a:Nat)(s:List Nat×Bool):Row a s s:=⟨rfl,fun _=>Nat.le_refl _,fun _ _=>rfl,Nat.le_refl _,fun h=>.inl h,fun h=>h⟩
theorem Row.step{a k:Nat}{s t u:List Nat×Bool}(h:Row a s t)(hk:k<19)(h2:Stp (a*19+k) t u):Row a s u:=by
 refine⟨h2.len.trans h.len,fun j=>Nat.le_trans (h2.le j) (h.le j),fun j hj=>(h2.ne j byO).trans (h.ne j hj),Nat.le_trans h2.sum h.sum,fun e=>?_,fun e=>h2.fl2 (h.fl2 e)⟩;rcases h2.fl e with e|e
 ·rcases h.fl e with e|e
  ·exact .inl e
  ·exact .inr (Nat.lt_of_le_of_lt h2.sum e)
 ·exact .inr (bd₀ e h.sum)
theorem AI{a k:Nat}{L:List Opt}{s t:List Nat×Bool}(h:Row a s t)(hk:k<19):Row a s (eG (a*19+k) L t):=
 nY (P:=Row a s) h fun t o _ h=>h.step hk (uT _ _ _)
theorem pQ{L:Nat->List Opt}{a:Nat}{s:List Nat×Bool}:∀k,k<=19->Row a s (round L a k s)
 | 0,_=>Row.refl a s
 | k+1,h=>AI (pQ k byO) byO
structure Fix (L:Nat->List Opt)(a:Nat)(c c':List Nat):Prop where
 len:c'.length=c.length
 le:∀j,c'.getD j 0<=c.getD j 0
 ne:∀j,(j<a*19\/a*19+19<=j)->c'.getD j 0=c.getD j 0
 fix:∀k,k<19->∀o ∈ L k,c'.getD (a*19+k) 0<=bh c' o
 got:∀k,k<19->c'.getD (a*19+k) 0=c.getD (a*19+k) 0\/∃o ∈ L k,c'.getD (a*19+k) 0=bh c' o
theorem Bc{c c':List Nat}(h:∀j,c'.getD j 0<=c.getD j 0)(o:Opt):bh c' o<=bh c o:=by
 unfold bh;have:=h (o.nx*19+o.md);omega
theorem AE{s:List Nat×Bool}{o:Opt}(h:(jT i s o).2=false):jT i s o=s/\¬ bh s.1 o<s.1.getD i 0:=by
 unfold jT at h ⊢;split
 ·rename_i h1;rw[if_pos h1]at h;cases h
 ·rename_i h1;exact⟨rfl,h1⟩
theorem qG{i:Nat}:∀{L:List Opt} {s:List Nat×Bool},(eG i L s).2=false->eG i L s=s/\∀o ∈ L,¬ bh s.1 o<s.1.getD i 0
 | [],s,h=>⟨rfl,by simp⟩
 | o::L,s,h=>by
  have h0:(eG i (o::L) s)=eG i L (jT i s o):=rfl;rw[h0]at h ⊢;obtain⟨e,f⟩:=qG (L:=L) h;rw[e]at h;obtain⟨e1,f1⟩:=AE h;rw[e,e1];rw[e1]at f;refine⟨rfl,fun o' ho'=>?_⟩;rcases List.mem_cons.1 ho' with rfl|ho'
  ·exact f1
  ·exact f o' ho'
theorem sZ{L:Nat->List Opt}{a:Nat}{s:List Nat×Bool}:∀k,(round L a k s).2=false->round L a k s=s/\∀j,j<k->∀o ∈ L j,¬ bh s.1 o<s.1.getD (a*19+j) 0
 | 0,h=>⟨rfl,fun j hj=>byO⟩
 | k+1,h=>by
  have h0:round L a (k+1) s=eG (a*19+k) (L k) (round L a k s):=rfl;rw[h0]at h ⊢;obtain⟨e,f⟩:=qG h;rw[e]at h;obtain⟨e1,f1⟩:=sZ k h;rw[e,e1];rw[e1]at f;refine⟨rfl,fun j hj=>?_⟩;by_cases hjk:j=k
  ·subst hjk;exact f
  ·exact f1 j byO
def Got(L:Nat->List Opt)(a:Nat)(c d:List Nat):Prop:=∀k,k<19->d.getD (a*19+k) 0=c.getD (a*19+k) 0\/∃o ∈ L k,bh d o<=d.getD (a*19+k) 0
theorem CV{L:Nat->List Opt}{a k:Nat}{c:List Nat}{s:List Nat×Bool}{o:Opt}(ho:o ∈ L k)(h:Got L a c s.1):Got L a c (jT (a*19+k) s o).1:=by
 have hst:=uT (a*19+k) s o;intro j hj;by_cases hjk:j=k
 ·subst hjk
  by_cases hlt:bh s.1 o<s.1.getD (a*19+j) 0
  ·right
   refine⟨o,ho,Nat.le_trans (Bc hst.le o) ?_⟩;have hi:a*19+j<s.1.length:=by
    refine Decidable.byContradiction fun hn=>?_;rw[Ai byO]at hlt;omega
   unfold jT;rw[if_pos hlt];simp only[iR hi,if_true];exact Nat.le_refl _
  ·unfold jT
   rw[if_neg hlt];exact h j hj
 ·have e:=hst.ne (a*19+j) byO
  rcases h j hj with h|⟨o',ho',h⟩
  ·left;rw[e];exact h
  ·right;exact⟨o',ho',by rw[e];exact Nat.le_trans (Bc hst.le o') h⟩
theorem tz{L:Nat->List Opt}{a:Nat}{c:List Nat}{s:List Nat×Bool}(h:Got L a c s.1):∀k,Got L a c (round L a k s).1
 | 0=>h
 | k+1=>nY (P:=fun t=>Got L a c t.1) (tz h k) fun t o ho ht=>CV ho ht
theorem Gv{L:Nat->List Opt}{a:Nat}{c d e:List Nat}(h:Stl L a d e)(hr:Row a (c,true) (d,true))(hg:Got L a c d):Fix L a c e:=by
 induction h with
 | @done d e h=>
  have h2:(round L a 19 (d,false)).2=false:=by rw[h]
  obtain⟨e1,f⟩:=sZ 19 h2;rw[h]at e1;obtain rfl:e=d:=congrArg Prod.fst e1;refine⟨hr.len,hr.le,hr.ne,fun k hk o ho=>Nat.not_lt.1 (f k hk o ho),fun k hk=>?_⟩;rcases hg k hk with h|⟨o,ho,h⟩
  ·exact .inl h
  ·exact .inr ⟨o,ho,Nat.le_antisymm (Nat.not_lt.1 (f k hk o ho)) h⟩
 | @more d d2 e h _ ih=>
  have h1:=pQ (L:=L) (a:=a) (s:=(d,false)) 19 (Nat.le_refl _);rw[h]at h1;have hg2:Got L a c d2:=by
   have:=tz (L:=L) (s:=(d,false)) hg 19;rw[h]at this;exact this
  refine ih ⟨h1.len.trans hr.len,fun j=>Nat.le_trans (h1.le j) (hr.le j),fun j hj=>(h1.ne j hj).trans (hr.ne j hj),Nat.le_trans h1.sum hr.sum,fun _=>.inl rfl,fun _=>rfl⟩ hg2
theorem Jv{L:Nat->List Opt}{a:Nat}{c e:List Nat}(h:Stl L a c e):Fix L a c e:=Gv h (Row.refl a _) fun _ _=>.inl rfl
def qS(n a:Nat)(c:List Nat):Nat->List Nat
 | 0=>c
 | k+1=>(qS n a c k).set (a*19+k) 1073741824
def wQ(n a:Nat)(c:List Nat):List Nat:=if a=n then(qS n a c 19).set (a*19) 0 else qS n a c 19
inductive New (p:List UInt8):Nat->List Nat->Prop
 | start:New p (p.length+1) (List.replicate ((p.length+1)*19) 0)
 | step {a:Nat} {c c':List Nat}:New p (a+1) c->Stl (eQ p (wQ p.length a c) a) a (wQ p.length a c) c'->New p a c'
theorem Nl{p:List UInt8}{a:Nat}{c:List Nat}(h:New p a c):a<=p.length+1:=by
 induction h with
 | start=>exact Nat.le_refl _
 | step _ _ ih=>omega
section
variable {lo:Nat}{H:Heap}{sb cb:Nat}{v:Value}{p:List UInt8}{cs:List Nat}
open XMDc
theorem Q7{a st:Nat}(hs:SrH H sb cb v p cs)(ha:a<=p.length)(hst:st<19)(hlo:lo<=H.length):Ev cp lo 176 [ptr sb,aB a,aB st] H (fun r H'=>Ext H H'/\∃b,H.length<=b/\OwnG lo 7 H' r b (cat aL (eQ p cs a st))):=by
 have hi:=hs.hi;refine stG rfl rfl ?_;unfold LM;simp only[kB,aC];refine aG ?_;unfold eQ;by_cases h0:st=0
 ·have hd:decide ((st:Int)=0)=true:=decide_eq_true byO
  rw[if_pos h0];replace h0:st<=0:=byO;refine aN ?_ ?_<;>intro h
  ·clear h hd
   (try simp only[aC]);refine cY ?_;refine aA (R8 hs ha hlo) ?_;rintro r H1 ⟨hx,b,hb,ho⟩;refine aG ?_;refine bg ?_;exact⟨hx,b,hb,ho⟩
  ·simp at h
 have hd:decide ((st:Int)=0)=false:=decide_eq_false byO;rw[if_neg h0];refine aN ?_ ?_<;>intro h
 ·simp at h
 clear h hd;(try simp only[aC]);by_cases h9:st<9
 ·have hd:decide ((st:Int)<9)=true:=decide_eq_true byO
  have e:(st:Int)-1=((st-1:Nat):Int):=byO;rw[if_pos h9];refine aN ?_ ?_<;>intro h
  ·clear h hd
   (try simp only[aC]);refine cY ?_;refine aA (MA (a:=a) (st:=st-1) (first:=1) (lower:=false) hs ha byO byO hlo) ?_;rintro r H1 ⟨hx,b,hb,ho⟩;refine aG ?_;refine bg ?_;exact⟨hx,b,hb,ho⟩
  ·simp at h
 have hd:decide ((st:Int)<9)=false:=decide_eq_false byO;rw[if_neg h9];refine aN ?_ ?_<;>intro h
 ·simp at h
 clear h hd;(try simp only[aC]);by_cases h17:st<17
 ·have hd:decide ((st:Int)<17)=true:=decide_eq_true byO
  have e:(st:Int)-9=((st-9:Nat):Int):=byO;rw[if_pos h17];refine aN ?_ ?_<;>intro h
  ·clear h hd
   (try simp only[aC]);refine cY ?_;refine aA (MA (a:=a) (st:=st-9) (first:=9) (lower:=true) hs ha byO byO hlo) ?_;rintro r H1 ⟨hx,b,hb,ho⟩;refine aG ?_;refine bg ?_;exact⟨hx,b,hb,ho⟩
  ·simp at h
 have hd:decide ((st:Int)<17)=false:=decide_eq_false byO;rw[if_neg h17];refine aN ?_ ?_<;>intro h
 ·simp at h
 clear h hd;(try simp only[aC]);by_cases hx17:st=17
 ·have hd:decide ((st:Int)=17)=true:=decide_eq_true byO
  rw[if_pos hx17];replace hx17:st<=17:=byO;refine aN ?_ ?_<;>intro h
  ·clear h hd
   (try simp only[aC]);refine cY ?_;refine aA (RY hs ha hlo) ?_;rintro r H1 ⟨hx,b,hb,ho⟩;refine aG ?_;refine bg ?_;exact⟨hx,b,hb,ho⟩
  ·simp at h
 have hd:decide ((st:Int)=17)=false:=decide_eq_false byO;rw[if_neg hx17];refine aN ?_ ?_<;>intro h
 ·simp at h
 clear h hd;(try simp only[aC]);refine cY ?_;refine aA (Rt hs ha hlo) ?_;rintro r H1 ⟨hx,b,hb,ho⟩;refine aG ?_;refine bg ?_;exact⟨hx,b,hb,ho⟩
end
theorem yE(p:List UInt8)(cs:List Nat)(a st:Nat):(eQ p cs a st).length<=200:=by
 unfold eQ;split
 ·unfold qN
  have:=uL p a;split<;>simp[rq]<;>omega
 ·split
  ·have:=sx (p:=p) (first:=1) (lower:=false) (L:=j1 p a ((st-1)%4) (decide (4<=st-1)) false)
   have:=iu p a ((st-1)%4) (decide (4<=st-1)) false;simp only[ll,ak₀];omega
  ·split
   ·have:=sx (p:=p) (first:=9) (lower:=true) (L:=j1 p a ((st-9)%4) (decide (4<=st-9)) true)
    have:=iu p a ((st-9)%4) (decide (4<=st-9)) true;simp only[ll,ak₀];omega
   ·split
    ·unfold tT;split<;>simp
    ·have:=xU (p:=p) (at':=a) 4 0 0
     unfold tJ;omega
structure SrW (A H:Heap)(sb cb:Nat)(v:Value)(p:List UInt8)(cs:List Nat):Prop where
 s:SrH H sb cb v p cs
 pl:SlU A v p
 ext:Ext A H
 cbA:A.length<=cb
 ne:sb≠cb
theorem SrW.mono{A H H':Heap}{sb cb:Nat}{v:Value}{p:List UInt8}{cs:List Nat}(h:SrW A H sb cb v p cs)(e:Ext H H'):SrW A H' sb cb v p cs:=
 ⟨h.s.ext e,h.pl,h.ext.trans e,h.cbA,h.ne⟩
theorem SrW.set{A H H':Heap}{sb cb i x:Nat}{v:Value}{p:List UInt8}{cs:List Nat}(h:SrW A H sb cb v p cs)(hk:Keep cb H H')(hg:H'.get cb=some (uN (cs.set i x)))(hx:x<=1073741824):SrW A H' sb cb v p (cs.set i x):=by
 have hA:=hk.ext h.ext h.cbA;refine⟨⟨hk.get h.s.g h.ne,hg,h.pl.mono hA,by simpa using h.s.len,h.s.hi,fun j=>?_⟩,h.pl,hA,h.cbA,h.ne⟩;by_cases hi:i<cs.length
 ·rw[iR hi];split
  ·exact hx
  ·exact h.s.le j
 ·rw[List.set_eq_of_length_le byO];exact h.s.le j
section
variable {lo:Nat}{A H:Heap}{sb cb:Nat}{v:Value}{p:List UInt8}{cs:List Nat}
open XMDc
theorem TA{a:Nat}(hs:SrW A H sb cb v p cs)(ha:a<=p.length)(hlo:lo<=A.length):Ev cp lo 128 [ptr sb,aB a] H (fun _ H'=>Keep cb H H'/\∃cs',Stl (eQ p cs a) a cs cs'/\SrW A H' sb cb v p cs'):=by
 have hi:=hs.s.hi;have hcbl:=Heap.get_lt hs.s.c;have hsbl:=Heap.get_lt hs.s.g;have hA:=hs.cbA;refine stG rfl rfl ?_;unfold Kc;simp only[kB,aC];refine aG ?_;have hxb:Ext H (H++[some (List.replicate 19 (Value.slice none 0 0))]):=Ext.app _ _;have hgb:(H++[some (List.replicate 19 (Value.slice none 0 0))]).get H.length=some (List.replicate 19 (Value.slice none 0 0)):=aH;have hlc:(H++[some (List.replicate 19 (Value.slice none 0 0))]).length<=H.length+1/\H.length+1<=(H++[some (List.replicate 19 (Value.slice none 0 0))]).length:=by simp
 change wpS cp lo _ _ _ (H++[some (List.replicate 19 (Value.slice none 0 0))]);have hX0:(List.replicate 19 (Value.slice none 0 0)).length<=19/\19<=(List.replicate 19 (Value.slice none 0 0)).length:=by simp
 generalize List.replicate 19 (Value.slice none 0 0)=X0 at *;generalize H++[some X0]=H0 at hxb hgb hlc;obtain⟨OL,hOL⟩:∃OL,False\/eQ p cs a=OL:=⟨_,.inr rfl⟩;refine fW (fun S' H'=>(SrW A H' sb cb v p cs/\Ext H H')/\(∃X:List Value,(X.length<=19/\19<=X.length)/\H'.get H.length=some X/\∀i,i<19->∃w b,X[i]?=some w/\H.length<b/\OwnG lo 7 H' w b (cat aL (eQ p cs a i)))/\∃(z:Nat->Value),S'=[ptr sb,aB a,ptr H.length,z 3,z 4,z 5,z 6,z 7,z 8,z 9,z 10,z 11,z 12,z 13,z 14,z 15,z 16,z 17,z 18]) ?_ ?_
 ·refine aT (fun k S H'=>Ext H H'/\(∃X:List Value,(X.length<=19/\19<=X.length)/\H'.get H.length=some X/\∀i,i<k->∃w b,X[i]?=some w/\H.length<b/\OwnG lo 7 H' w b (cat aL (eQ p cs a i)))/\∃(z:Nat->Value),S=[ptr sb,aB a,ptr H.length,z 3,z 4,z 5,z 6,z 7,z 8,.int .i64 (k:Nat),z 10,z 11,z 12,z 13,z 14,z 15,z 16,z 17,z 18]) 19 ⟨hxb,⟨X0,hX0,hgb,fun i hi=>absurd hi byO⟩,aJ rfl⟩ ?_ ?_ ?_
  ·rintro k S H' hk ⟨h1,h2,z,rfl⟩
   exact⟨decide ((k:Int)<19),by simp(disch:=try exact dO)only[evB,xtr,Nat.reduceAdd,Nat.reduceBEq,Int.reduceToNat, *],by simp;omega⟩
  ·rintro k S H1 hk ⟨hx1,⟨X,hX,hgX,hXi⟩,z,rfl⟩
   have hl1:=hx1.1;have hXl:=Heap.get_lt hgX;replace hXi:False\/_:=.inr hXi;refine aG ?_;refine cY ?_;refine aA (Q7 (lo:=lo) (st:=k) (hs.s.ext hx1) ha hk byO) ?_;rintro r H2 ⟨hx2,b,hb,ho⟩;obtain⟨ad,rfl⟩:=ho.len byO fh;have hgX2:=hx2.get hgX;have hl2:=hx2.1;obtain⟨q,hq⟩:∃q,False\/(eQ p cs a k).length=q:=⟨_,.inr rfl⟩;rw[hq.resolve_left id]at ho ⊢;refine aG ?_;have hk2:Keep H.length H2 (List.set H2 H.length (some (X.set k (Value.slice ad q q)))):=keepSet;refine⟨hk2.ext (hx1.trans hx2) (Nat.le_refl _),⟨_,by simp;omega,aE byO,fun i hi=>?_⟩,aJ ncM⟩;by_cases hik:i=k
   ·subst hik
    exact⟨_,b,List.getElem?_set_self byO,byO,ho.keep hk2 byO⟩
   ·obtain⟨w,b',h1,h2,h3⟩:=hXi.resolve_left id i byO
    exact⟨w,b',by rw[List.getElem?_set_ne byO];exact h1,h2,(h3.mono hx2).keep hk2 byO⟩
  ·rintro S H1 ⟨hx1,hX,z,rfl⟩
   (try simp only[aC]);exact⟨⟨hs.mono hx1,hx1⟩,hX,aJ rfl⟩
 ·rintro S H1 ⟨⟨hs1,hx1⟩,⟨X,hX,hgX,hXi⟩,z,rfl⟩
  have hok:∀k,∀o ∈ eQ p cs a k,o.ok p.length a:=fun k=>jP ha;have hLl:False\/∀k,(eQ p cs a k).length<=200:=.inr (yE p cs a);generalize eQ p cs a=L at hXi hok hLl ⊢;clear hOL;obtain⟨F,hF⟩:∃F:Heap->Prop,∀H',F H'↔(H'.get H.length=some X/\∀i,i<19->∃w b,X[i]?=some w/\H.length<b/\OwnG lo 7 H' w b (cat aL (L i))):=⟨_,fun _=>Iff.rfl⟩;have hFk:∀{H' H''},F H'->Keep cb H' H''->F H'':=by
   intro H' H'' h1 h2;obtain⟨g1,g2⟩:=(hF _).1 h1;refine(hF _).2 ⟨h2.get g1 byO,fun i hi=>?_⟩;obtain⟨w,b,e1,e2,e3⟩:=g2 i hi;exact⟨w,b,e1,e2,e3.keep h2 byO⟩
  have hF1:F H1:=(hF _).2 ⟨hgX,hXi⟩;clear hgX hXi;refine aG ?_;refine bK (fun m S H'=>∃(c1:List Nat) (t:Bool),((Keep cb H H'/\SrW A H' sb cb v p c1)/\F H')/\((t=true/\m=c1.sum+1/\∀c',Stl L a c1 c'->Stl L a cs c')\/(t=false/\m=0/\Stl L a cs c1))/\∃(z:Nat->Value),S=[ptr sb,aB a,ptr H.length,z 3,.bool t,z 5,z 6,z 7,z 8,z 9,z 10,z 11,z 12,z 13,z 14,z 15,z 16,z 17,z 18]) (cs.sum+1) ⟨cs,true,⟨⟨Ext.keep hx1,hs1⟩,hF1⟩,.inl ⟨rfl,rfl,fun _ h=>h⟩,aJ rfl⟩ ?_;clear hF1 hs1 hx1;rintro m S H2 ⟨c1,t,⟨⟨hk2,hs2⟩,hF2⟩,hcase,z,rfl⟩;rcases hcase with ⟨rfl,hm,hst⟩|⟨rfl,hm,hst⟩
  ·replace hst:False\/_:=.inr hst
   replace hm:m<=c1.sum+1/\c1.sum+1<=m:=byO;obtain⟨hgX,hXi⟩:=(hF _).1 hF2;replace hXi:False\/_:=.inr hXi;(try simp only[aC]);refine aN ?_ ?_<;>intro h
   ·clear h
    refine aG ?_;rw[List.take_of_length_le hX.1];refine aT (fun k S H'=>((Keep cb H H'/\SrW A H' sb cb v p (round L a k (c1,false)).1)/\F H')/\∃(z:Nat->Value),S=[ptr sb,aB a,ptr H.length,z 3,.bool (round L a k (c1,false)).2,z 5,z 6,z 7,z 8,z 9,z 10,z 11,.agg X.toArray,.int .i64 (k:Nat),z 14,z 15,z 16,z 17,z 18]) 19 ⟨⟨⟨hk2,hs2⟩,hF2⟩,aJ rfl⟩ ?_ ?_ ?_
    ·rintro k S H' hk ⟨h1,z,rfl⟩
     exact⟨decide ((k:Int)<19),by simp(disch:=try exact dO)only[evB,xtr,Nat.reduceAdd,Nat.reduceBEq,Int.reduceToNat, *],by simp;omega⟩
    ·rintro k S H3 hk ⟨⟨⟨hk3,hs3⟩,hF3⟩,z,rfl⟩
     clear hF2 hk2 hs2 hgX hXi;obtain⟨hgX,hXi⟩:=(hF _).1 hF3;obtain⟨w,b,hw,hb,ho⟩:=hXi k hk;obtain⟨aw,rfl⟩:=ho.len byO fh;clear hXi;have hr:round L a (k+1) (c1,false)=eG (a*19+k) (L k) (round L a k (c1,false)):=rfl;have hokk:=hok k;rw[hr];clear hr;generalize round L a k (c1,false)=s at hs3 ⊢;have hKl:=hLl.resolve_left id k;generalize hLK:L k=K at ho hokk hw hKl ⊢;clear hLK hgX;refine aG ?_;refine aT (fun j S H'=>((Keep cb H H'/\SrW A H' sb cb v p (eG (a*19+k) (K.take j) s).1)/\Keep cb H3 H')/\∃(z:Nat->Value),S=[ptr sb,aB a,ptr H.length,z 3,.bool (eG (a*19+k) (K.take j) s).2,aB k,z 6,z 7,z 8,z 9,z 10,z 11,.agg X.toArray,.int .i64 (k:Nat),.slice aw K.length K.length,.int .i64 (K.length:Nat),.int .i64 (j:Nat),z 17,z 18]) K.length ⟨⟨⟨hk3,hs3⟩,Ext.keep (Ext.refl _)⟩,aJ rfl⟩ ?_ ?_ ?_
     ·rintro j S H' hj ⟨h1,z,rfl⟩
      exact⟨decide ((j:Int)<(K.length:Nat)),by simp(disch:=try exact dO)only[evB,xtr,Nat.reduceAdd,Nat.reduceBEq,Int.reduceToNat, *],by simp⟩
     ·rintro j S H4 hj ⟨⟨⟨hk4,hs4⟩,hk34⟩,z,rfl⟩
      clear hs3;have ho4:=ho.keep hk34 byO;obtain⟨p4,o4,X4,i4,g4,l4,e4⟩:=ho4.at byO fh hj;have hoo:=hokk _ (List.getElem_mem hj);have hr:eG (a*19+k) (K.take (j+1)) s=jT (a*19+k) (eG (a*19+k) (K.take j) s) K[j]:=by
       rw[List.take_succ_eq_append_getElem hj,AD];rfl
      rw[hr];clear hr hokk ho4;generalize eG (a*19+k) (K.take j) s=s4 at hs4 ⊢;generalize K[j]=o at e4 hoo ⊢;have hl4:=hk4.len;refine aG ?_;change wpS cp lo _ _ _ (H4++[some (aL o)]);have hxc:Ext H4 (H4++[some (aL o)]):=Ext.app _ _;have hgo:(H4++[some (aL o)]).get H4.length=some (aL o):=aH;generalize H4++[some (aL o)]=H5 at hxc hgo;clear i4 g4 l4 e4;have hs5:=hs4.mono hxc;have o1:=hoo.sz;have o2:=hoo.run;have o3:=hoo.nx;have o4:=hoo.md;clear hoo;refine cY ?_;refine aA (Jy (lo:=lo) (o:=o) hs5.s byO) ?_;rintro r H6 ⟨hx6,rfl⟩;have hs6:=hs5.mono hx6;have hk46:Keep cb H4 H6:=Ext.keep (hxc.trans hx6);have hl6:=hk46.len;have hrel:jT (a*19+k) s4 o=if bh s4.1 o<s4.1.getD (a*19+k) 0 then(s4.1.set (a*19+k) (bh s4.1 o),true) else s4:=rfl
      replace hrel:False\/_:=.inr hrel;clear hgo hs5 hs4;obtain⟨ss,bb⟩:=s4;simp only at hs6 hrel ⊢;generalize bh ss o=x at hrel;have hgs:=hs6.s.g;have hgc:=hs6.s.c;have hlen:=hs6.s.len;have hidx:a*19+k<ss.length:=byO;have hat:=Be hidx;have hle:=hs6.s.le (a*19+k);have hul:(uN ss).length<=ss.length/\ss.length<=(uN ss).length:=by simp
      have hset:False\/∀y,(uN ss).set (a*19+k) (aB y)=uN (ss.set (a*19+k) y):=.inr (fun y=>by simp[uN,List.map_set]);generalize ss.getD (a*19+k) 0=y at hat hrel hle;generalize uN ss=Y at hgc hat hul hset;replace hlen:ss.length<=(p.length+1)*19/\(p.length+1)*19<=ss.length:=byO;refine aG ?_;by_cases hxy:x<y
      ·have hd:decide ((x:Int)<(y:Nat))=true:=decide_eq_true byO
       refine aN ?_ ?_<;>intro h
       ·clear h hd
        refine aG ?_;have e:=hrel.resolve_left id;rw[if_pos hxy]at e;rw[e];clear e;have e2:=hset.resolve_left id x;have hk7:Keep cb H6 (List.set H6 cb (some (Y.set (a*19+k) (Value.int .i64 (x:Nat))))):=keepSet;have hg7:Heap.get (List.set H6 cb (some (Y.set (a*19+k) (Value.int .i64 (x:Nat))))) cb=some (Y.set (a*19+k) (Value.int .i64 (x:Nat))):=aE byO;refine⟨⟨⟨dh hk4 (.inl rfl) (dh hk46 (.inl rfl) hk7),hs6.set hk7 (by rw[hg7];exact congrArg some e2) byO⟩,dh hk34 (.inl rfl) (dh hk46 (.inl rfl) hk7)⟩,aJ ncM⟩
       ·simp at h
      ·have hd:decide ((x:Int)<(y:Nat))=false:=decide_eq_false byO
       have e:=hrel.resolve_left id;rw[if_neg hxy]at e;rw[e];clear e;refine aN ?_ ?_<;>intro h
       ·simp at h
       ·clear h hd
        refine aG ?_;exact⟨⟨⟨dh hk4 (.inl rfl) hk46,hs6⟩,dh hk34 (.inl rfl) hk46⟩,aJ ncM⟩
     ·rintro S H4 ⟨⟨⟨hk4,hs4⟩,hk34⟩,z,rfl⟩
      rw[List.take_length]at hs4 ⊢;refine aG ?_;exact⟨⟨⟨hk4,hs4⟩,hFk hF3 hk34⟩,aJ ncM⟩
    ·rintro S H3 ⟨⟨⟨hk3,hs3⟩,hF3⟩,z,rfl⟩
     have hrow:=pQ (L:=L) (a:=a) (s:=(c1,false)) 19 (Nat.le_refl _);obtain⟨d,t,hdt⟩:∃d t,round L a 19 (c1,false)=(d,t):=⟨_,_,rfl⟩;rw[hdt]at hs3 hrow ⊢;clear hgX hXi hk2 hs2 hF2;(try simp only[aC]);refine⟨if t then d.sum+1 else 0,?_,d,t,⟨⟨hk3,hs3⟩,hF3⟩,?_,aJ rfl⟩
     ·cases t with
      | true=>
       rcases hrow.fl rfl with h|h
       ·cases h
       ·simp only at h ⊢;simp;omega
      | false=>simp;omega
     ·cases t with
      | true=>exact .inl ⟨rfl,rfl,fun c' h=>hst.resolve_left id c' (.more hdt h)⟩
      | false=>exact .inr ⟨rfl,rfl,hst.resolve_left id _ (.done hdt)⟩
   ·cases h
  ·replace hst:False\/_:=.inr hst
   replace hm:m<=0:=byO;(try simp only[aC]);refine aN ?_ ?_<;>intro h
   ·cases h
   ·(try simp only[aC])
    refine fS (by simp(disch:=try exact dO)only[evB,xtr,Nat.reduceAdd,Nat.reduceBEq,Int.reduceToNat, *];rfl) ?_;exact⟨hk2,c1,hst.resolve_left id,hs2⟩
end
theorem KM(n:Nat):bQ (List.replicate 19 (Value.int .i64 0)) n=uN (List.replicate (n*19) 0):=by
 have:bQ (List.replicate 19 (Value.int .i64 0)) n=List.replicate (n*19) (Value.int .i64 0):=by
  unfold bQ
  induction n with
  | zero=>rfl
  | succ n ih=>rw[List.replicate_succ,List.flatten_cons,ih,List.replicate_append_replicate,Nat.succ_mul,Nat.add_comm]
 rw[this,uN,List.map_replicate];rfl
section
variable {lo:Nat}{H:Heap}{v:Value}{p:List UInt8}
open XMDc
theorem Se(hp:SlU H v p)(hl:p.length<=4096)(hlo:lo<=H.length):Ev cp lo 75 [v] H (fun r H'=>Ext H H'/\∃sb cb cs,r=ptr sb/\New p 0 cs/\SrW H H' sb cb v p cs):=by
 obtain⟨ad,c,ev⟩:=hp.len;subst ev;have htn:((p.length:Int)+1).toNat=p.length+1:=byO;refine stG rfl rfl ?_;unfold P3;simp only[kB,aC];refine aG ?_;clear htn;generalize hC:uN (List.replicate ((p.length+1)*19) 0)=C;have hz:=(KM (p.length+1)).trans hC;change bQ [Value.int .i64 0,Value.int .i64 0,Value.int .i64 0,Value.int .i64 0,Value.int .i64 0,Value.int .i64 0,Value.int .i64 0,Value.int .i64 0,Value.int .i64 0,Value.int .i64 0,Value.int .i64 0,Value.int .i64 0,Value.int .i64 0,Value.int .i64 0,Value.int .i64 0,Value.int .i64 0,Value.int .i64 0,Value.int .i64 0,Value.int .i64 0] (p.length+1)=C at hz;rw[hz];clear hz;have hxb:Ext H (H++[some C,some [Value.slice ad p.length c,.slice (some ⟨H.length,0,none⟩) (p.length+1) (p.length+1)]]):=Ext.app _ _;have hg0:(H++[some C,some [Value.slice ad p.length c,.slice (some ⟨H.length,0,none⟩) (p.length+1) (p.length+1)]]).get H.length=some C:=aH;have hg1:(H++[some C,some [Value.slice ad p.length c,.slice (some ⟨H.length,0,none⟩) (p.length+1) (p.length+1)]]).get (H.length+1)=some [Value.slice ad p.length c,.slice (some ⟨H.length,0,none⟩) (p.length+1) (p.length+1)]:=by rw[bO];rfl
 generalize H++[some C,some [Value.slice ad p.length c,.slice (some ⟨H.length,0,none⟩) (p.length+1) (p.length+1)]]=H0 at hxb hg0 hg1;have hs0:SrW H H0 (H.length+1) H.length (.slice ad p.length c) p (List.replicate ((p.length+1)*19) 0):=by
  refine⟨⟨hg1,by rw[hC];exact hg0,hp.mono hxb,by simp,hl,fun i=>?_⟩,hp,hxb,Nat.le_refl _,byO⟩;simp only[au₀,List.getElem?_replicate];split<;>simp
 clear hg0 hg1 hC;have hn0:New p (p.length+1) (List.replicate ((p.length+1)*19) 0):=.start;generalize List.replicate ((p.length+1)*19) 0=cs at hs0 hn0;refine aT (fun k S H'=>(∃cs,New p (p.length+1-k) cs/\SrW H H' (H.length+1) H.length (.slice ad p.length c) p cs)/\∃(z:Nat->Value),S=[.slice ad p.length c,z 1,ptr (H.length+1),.int .i64 ((p.length:Int)-(k:Nat)),z 4,z 5,z 6,z 7,z 8]) (p.length+1) ⟨⟨cs,hn0,hs0⟩,aJ (by simp)⟩ ?_ ?_ ?_
 ·rintro k S H' hk ⟨h1,z,rfl⟩
  exact⟨decide ((0:Int)<=(p.length:Int)-(k:Nat)),by simp(disch:=try exact dO)only[evB,xtr,Nat.reduceAdd,Nat.reduceBEq,Int.reduceToNat, *],by simp;omega⟩
 ·rintro k S H1 hk ⟨⟨cs,hn,hs⟩,z,rfl⟩
  obtain⟨a,ha,hak⟩:∃a:Nat,(p.length:Int)-(k:Nat)=(a:Nat)/\p.length+1-k=a+1/\p.length+1-(k+1)=a/\a<=p.length:=⟨p.length-k,byO,byO⟩;have ha2:(p.length:Int)-((k+1:Nat):Nat)=(a:Nat)-1:=byO;rw[hak.2.1,ha2,ha];rw[hak.1]at hn;obtain⟨_,_,hap⟩:=hak;clear ha2 ha hs0 hn0;replace hn:False\/_:=.inr hn;have hx1:=hs.ext;have hl1:=hx1.1;refine aG ?_;refine aT (fun j S H'=>SrW H H' (H.length+1) H.length (.slice ad p.length c) p (qS p.length a cs j)/\∃(z:Nat->Value),S=[.slice ad p.length c,z 1,ptr (H.length+1),aB a,z 4,z 5,z 6,z 7,.int .i64 (j:Nat)]) 19 ⟨hs,aJ rfl⟩ ?_ ?_ ?_
  ·rintro j S H' hj ⟨h1,z,rfl⟩
   exact⟨decide ((j:Int)<19),by simp(disch:=try exact dO)only[evB,xtr,Nat.reduceAdd,Nat.reduceBEq,Int.reduceToNat, *],by simp;omega⟩
  ·rintro j S H2 hj ⟨hs2,z,rfl⟩
   have hr:qS p.length a cs (j+1)=(qS p.length a cs j).set (a*19+j) 1073741824:=rfl;rw[hr];clear hr;generalize qS p.length a cs j=ss at hs2 ⊢;have hgs:=hs2.s.g;have hgc:=hs2.s.c;have hll:=Heap.get_lt hgc;have hlen:=hs2.s.len;have hidx:a*19+j<ss.length:=byO;have hul:(uN ss).length<=ss.length/\ss.length<=(uN ss).length:=by simp
   have hset:False\/(uN ss).set (a*19+j) (aB 1073741824)=uN (ss.set (a*19+j) 1073741824):=.inr (by simp[uN,List.map_set]);generalize uN ss=Y at hgc hul hset;replace hlen:ss.length<=(p.length+1)*19/\(p.length+1)*19<=ss.length:=byO;refine aG ?_;have hk7:Keep H.length H2 (List.set H2 H.length (some (Y.set (a*19+j) (Value.int .i64 1073741824)))):=keepSet;have hg7:Heap.get (List.set H2 H.length (some (Y.set (a*19+j) (Value.int .i64 1073741824)))) H.length=some (Y.set (a*19+j) (Value.int .i64 1073741824)):=aE byO;exact⟨hs2.set hk7 (by rw[hg7];exact congrArg some (hset.resolve_left id)) byO,aJ ncM⟩
  ·rintro S H2 ⟨hs2,z,rfl⟩
   (try simp only[aC]);refine fC (fun S' H'=>SrW H H' (H.length+1) H.length (.slice ad p.length c) p (wQ p.length a cs)/\∃(z:Nat->Value),S'=[.slice ad p.length c,z 1,ptr (H.length+1),aB a,z 4,z 5,z 6,z 7,z 8]) ?_ ?_
   ·unfold wQ
    generalize qS p.length a cs 19=ss at hs2 ⊢;by_cases han:a=p.length
    ·have hd:decide ((a:Int)=(p.length:Nat))=true:=decide_eq_true byO
     rw[if_pos han];replace han:a<=p.length/\p.length<=a:=byO;have hgs:=hs2.s.g;have hgc:=hs2.s.c;have hll:=Heap.get_lt hgc;have hlen:=hs2.s.len;have hidx:a*19<ss.length:=byO;have hul:(uN ss).length<=ss.length/\ss.length<=(uN ss).length:=by simp
     have hset:False\/(uN ss).set (a*19) (aB 0)=uN (ss.set (a*19) 0):=.inr (by simp[uN,List.map_set]);generalize uN ss=Y at hgc hul hset;replace hlen:ss.length<=(p.length+1)*19/\(p.length+1)*19<=ss.length:=byO;refine aN ?_ ?_<;>intro h
     ·clear h hd
      refine aG ?_;have hk7:Keep H.length H2 (List.set H2 H.length (some (Y.set (a*19) (Value.int .i64 0)))):=keepSet;have hg7:Heap.get (List.set H2 H.length (some (Y.set (a*19) (Value.int .i64 0)))) H.length=some (Y.set (a*19) (Value.int .i64 0)):=aE byO;exact⟨hs2.set hk7 (by rw[hg7];exact congrArg some (hset.resolve_left id)) byO,aJ ncM⟩
     ·simp at h
    ·have hd:decide ((a:Int)=(p.length:Nat))=false:=decide_eq_false byO
     rw[if_neg han];refine aN ?_ ?_<;>intro h
     ·simp at h
     ·(try simp only[aC])
      exact⟨hs2,aJ ncM⟩
   ·rintro S' H3 ⟨hs3,z,rfl⟩
    generalize hR:wQ p.length a cs=cs3 at hs3;replace hR:False\/_:=.inr hR;(try simp only[aC]);refine cY ?_;refine aA (TA (lo:=lo) hs3 hap hlo) ?_;rintro r H4 ⟨hk4,cs4,hst,hs4⟩;replace hst:False\/_:=.inr hst;refine aG ?_;refine⟨⟨cs4,.step (hn.resolve_left id) ?_,hs4⟩,aJ ncM⟩;rw[hR.resolve_left id];exact hst.resolve_left id
 ·rintro S H1 ⟨⟨cs,hn,hs⟩,z,rfl⟩
  rw[Nat.sub_self]at hn;have hx:=hs.ext;replace hn:False\/_:=.inr hn;refine aG ?_;refine bg ?_;exact⟨hx,_,_,cs,rfl,hn.resolve_left id,hs⟩
end
end Go.Proofs.YtmnlgdpdgjbfgaaGreat
