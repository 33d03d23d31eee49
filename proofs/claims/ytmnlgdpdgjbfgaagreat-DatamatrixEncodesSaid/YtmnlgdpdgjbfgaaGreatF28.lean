/- Lemmas. -/
import Derived.Test.YtmnlgdpdgjbfgaaGreatF27
set_option linter.all false
namespace Go.Proofs.YtmnlgdpdgjbfgaaGreat
open Go.Abs
variable{H:Heap}{S:List Value}{p:List UInt8}
set_option maxRecDepth 20000
def j5(i:Nat)(s:List Nat×Bool)(o:Opt):List Nat×Bool:=if bP s.1 o<s.1.getD i 0 then(s.1.set i (bP s.1 o),true) else s
def eI(i:Nat)(L:List Opt)(s:List Nat×Bool):List Nat×Bool:=L.foldl (j5 i) s
def round(L:Nat->List Opt)(a:Nat):Nat->List Nat×Bool->List Nat×Bool
 | 0,s=>s
 | k+1,s=>eI (a*19+k) (L k) (round L a k s)
inductive Stl (L:Nat->List Opt) (a:Nat):List Nat->List Nat->Prop
 | done {c c':List Nat}:round L a 19 (c,false)=(c',false)->Stl L a c c'
 | more {c d c':List Nat}:round L a 19 (c,false)=(d,true)->Stl L a d c'->Stl L a c c'
theorem mF{l:List Nat}{i j x:Nat}(h:i<l.length):(l.set i x).getD j 0=if j=i then x else l.getD j 0:=by
 grind
theorem wh:∀{l:List Nat} {i x:Nat},i<l.length->(l.set i x).sum+l.getD i 0=l.sum+x
 | y::l,0,x,_=>by grind
 | y::l,i+1,x,h=>by
  have:=wh (l:=l) (i:=i) (x:=x) (by simpa using h)
  grind
structure Stp (i:Nat)(s t:List Nat×Bool):Prop where
 len:t.1.length=s.1.length
 le:∀j,t.1.getD j 0<=s.1.getD j 0
 ne:∀j,j≠i->t.1.getD j 0=s.1.getD j 0
 sum:t.1.sum<=s.1.sum
 fl:t.2=true->s.2=true\/t.1.sum<s.1.sum
 fl2:s.2=true->t.2=true
theorem ui(i:Nat)(s:List Nat×Bool)(o:Opt):Stp i s (j5 i s o):=by
 unfold j5;split
 ·have hi:i<s.1.length:=by
   grind
  have hs:=wh (x:=bP s.1 o) hi;refine⟨by simp,fun j=>?_,fun j hj=>?_,by grind,fun _=>.inr (by grind),fun _=>rfl⟩
  all_goals grind
 ·exact⟨rfl,fun _=>Nat.le_refl _,fun _ _=>rfl,Nat.le_refl _,fun h=>.inl h,fun h=>h⟩
theorem nX{P:List Nat×Bool->Prop}{i:Nat}:∀{L:List Opt} {s:List Nat×Bool},P s->(∀t o,o ∈ L->P t->P (j5 i t o))->P (eI i L s)
 | [],s,h,_=>h
 | o::L,s,h,hs=>nX (L:=L) (s:=j5 i s o) (hs s o (by simp) h) fun t o' h'=>hs t o' (List.mem_cons_of_mem _ h')
theorem A5{i:Nat}{A B:List Opt}{s:List Nat×Bool}:eI i (A++B) s=eI i B (eI i A s):=by grind[eI]
structure Row (a:Nat)(s t:List Nat×Bool):Prop where
 len:t.1.length=s.1.length
 le:∀j,t.1.getD j 0<=s.1.getD j 0
 ne:∀j,(j<a*19\/a*19+19<=j)->t.1.getD j 0=s.1.getD j 0
 sum:t.1.sum<=s.1.sum
 fl:t.2=true->s.2=true\/t.1.sum<s.1.sum
 fl2:s.2=true->t.2=true
theorem Row.refl(a:Nat)(s:List Nat×Bool):Row a s s:=⟨rfl,fun _=>Nat.le_refl _,fun _ _=>rfl,Nat.le_refl _,fun h=>.inl h,fun h=>h⟩
theorem Row.step{a k:Nat}{s t u:List Nat×Bool}(h:Row a s t)(hk:k<19)(h2:Stp (a*19+k) t u):Row a s u:=by
 refine⟨h2.len.trans h.len,fun j=>Nat.le_trans (h2.le j) (h.le j),fun j hj=>(h2.ne j byO).trans (h.ne j hj),Nat.le_trans h2.sum h.sum,fun e=>?_,fun e=>h2.fl2 (h.fl2 e)⟩;rcases h2.fl e with e|e
 ·rcases h.fl e with e|e
  ·exact .inl e
  ·exact .inr (Nat.lt_of_le_of_lt h2.sum e)
 ·exact .inr (bd₀ e h.sum)
theorem A9{a k:Nat}{L:List Opt}{s t:List Nat×Bool}(h:Row a s t)(hk:k<19):Row a s (eI (a*19+k) L t):=
 nX (P:=Row a s) h fun t o _ h=>h.step hk (ui _ _ _)
theorem pa{L:Nat->List Opt}{a:Nat}{s:List Nat×Bool}:∀k,k<=19->Row a s (round L a k s)
 | 0,_=>Row.refl a s
 | k+1,h=>A9 (pa k byO) byO
structure Fix (L:Nat->List Opt)(a:Nat)(c c':List Nat):Prop where
 len:c'.length=c.length
 le:∀j,c'.getD j 0<=c.getD j 0
 ne:∀j,(j<a*19\/a*19+19<=j)->c'.getD j 0=c.getD j 0
 fix:∀k,k<19->∀o ∈ L k,c'.getD (a*19+k) 0<=bP c' o
 got:∀k,k<19->c'.getD (a*19+k) 0=c.getD (a*19+k) 0\/∃o ∈ L k,c'.getD (a*19+k) 0=bP c' o
theorem CT{c c':List Nat}(h:∀j,c'.getD j 0<=c.getD j 0)(o:Opt):bP c' o<=bP c o:=by
 grind[bP]
theorem A6{i:Nat}{s:List Nat×Bool}{o:Opt}(h:(j5 i s o).2=false):j5 i s o=s/\¬ bP s.1 o<s.1.getD i 0:=by
 unfold j5 at h ⊢;split
 ·rename_i h1;rw[if_pos h1]at h;cases h
 ·rename_i h1;exact⟨rfl,h1⟩
theorem qP{i:Nat}:∀{L:List Opt} {s:List Nat×Bool},(eI i L s).2=false->eI i L s=s/\∀o ∈ L,¬ bP s.1 o<s.1.getD i 0
 | [],s,h=>⟨rfl,by simp⟩
 | o::L,s,h=>by
  have h0:(eI i (o::L) s)=eI i L (j5 i s o):=rfl;obtain⟨e,f⟩:=qP (L:=L) h
  grind[A6]
theorem si{L:Nat->List Opt}{a:Nat}{s:List Nat×Bool}:∀k,(round L a k s).2=false->round L a k s=s/\∀j,j<k->∀o ∈ L j,¬ bP s.1 o<s.1.getD (a*19+j) 0
 | 0,h=>⟨rfl,fun j hj=>byO⟩
 | k+1,h=>by
  have h0:round L a (k+1) s=eI (a*19+k) (L k) (round L a k s):=rfl;rw[h0]at h ⊢;obtain⟨e,f⟩:=qP h;rw[e]at h;obtain⟨e1,f1⟩:=si k h
  grind
def Got(L:Nat->List Opt)(a:Nat)(c d:List Nat):Prop:=∀k,k<19->d.getD (a*19+k) 0=c.getD (a*19+k) 0\/∃o ∈ L k,bP d o<=d.getD (a*19+k) 0
theorem Cx{L:Nat->List Opt}{a k:Nat}{c:List Nat}{s:List Nat×Bool}{o:Opt}(ho:o ∈ L k)(h:Got L a c s.1):Got L a c (j5 (a*19+k) s o).1:=by
 have hst:=ui (a*19+k) s o;intro j hj;by_cases hjk:j=k
 ·subst hjk
  by_cases hlt:bP s.1 o<s.1.getD (a*19+j) 0
  ·right
   refine⟨o,ho,Nat.le_trans (CT hst.le o) ?_⟩
   grind[j5]
  ·unfold j5
   rw[if_neg hlt];exact h j hj
 ·have e:=hst.ne (a*19+j) byO
  rcases h j hj with h|⟨o',ho',h⟩
  ·omega
  ·right;exact⟨o',ho',by rw[e];exact Nat.le_trans (CT hst.le o') h⟩
theorem uK{L:Nat->List Opt}{a:Nat}{c:List Nat}{s:List Nat×Bool}(h:Got L a c s.1):∀k,Got L a c (round L a k s).1
 | 0=>h
 | k+1=>nX (P:=fun t=>Got L a c t.1) (uK h k) fun t o ho ht=>Cx ho ht
theorem HU{L:Nat->List Opt}{a:Nat}{c d e:List Nat}(h:Stl L a d e)(hr:Row a (c,true) (d,true))(hg:Got L a c d):Fix L a c e:=by
 induction h with
 | @done d e h=>
  have h2:(round L a 19 (d,false)).2=false:=by rw[h]
  obtain⟨e1,f⟩:=si 19 h2;rw[h]at e1;obtain rfl:e=d:=congrArg Prod.fst e1;refine⟨hr.len,hr.le,hr.ne,fun k hk o ho=>Nat.not_lt.1 (f k hk o ho),fun k hk=>?_⟩;rcases hg k hk with h|⟨o,ho,h⟩
  all_goals grind
 | @more d d2 e h _ ih=>
  have h1:=pa (L:=L) (a:=a) (s:=(d,false)) 19 (Nat.le_refl _);rw[h]at h1;have hg2:Got L a c d2:=by
   grind[uK]
  refine ih ⟨h1.len.trans hr.len,fun j=>Nat.le_trans (h1.le j) (hr.le j),fun j hj=>(h1.ne j hj).trans (hr.ne j hj),Nat.le_trans h1.sum hr.sum,fun _=>.inl rfl,fun _=>rfl⟩ hg2
theorem KP{L:Nat->List Opt}{a:Nat}{c e:List Nat}(h:Stl L a c e):Fix L a c e:=HU h (Row.refl a _) fun _ _=>.inl rfl
def sj(n a:Nat)(c:List Nat):Nat->List Nat
 | 0=>c
 | k+1=>(sj n a c k).set (a*19+k) 1073741824
def wX(n a:Nat)(c:List Nat):List Nat:=if a=n then(sj n a c 19).set (a*19) 0 else sj n a c 19
inductive New (p:List UInt8):Nat->List Nat->Prop
 | start:New p (p.length+1) (List.replicate ((p.length+1)*19) 0)
 | step {a:Nat} {c c':List Nat}:New p (a+1) c->Stl (dQ p (wX p.length a c) a) a (wX p.length a c) c'->New p a c'
theorem O1{a:Nat}{c:List Nat}(h:New p a c):a<=p.length+1:=by
 induction h with
 | start=>omega
 | step _ _ ih=>omega
section
variable {lo:Nat}{H:Heap}{sb cb:Nat}{v:Value}{p:List UInt8}{cs:List Nat}
open XYe
theorem Ro{a st:Nat}(hs:SrH H sb cb v p cs)(ha:a<=p.length)(hst:st<19)(hlo:lo<=H.length):Ev cp lo 176 [ptr sb,aB a,aB st] H (fun r H'=>Ext H H'/\∃b,H.length<=b/\OwnG lo 7 H' r b (cat aQ (dQ p cs a st))):=by
 have hi:=hs.hi;refine stG rfl rfl ?_;unfold LU;simp only[kB,aD];refine aA ?_;unfold dQ;by_cases h0:st=0
 ·have hd:decide ((st:Int)=0)=true:=decide_eq_true byO
  rw[if_pos h0];replace h0:st<=0:=byO;refine bL ?_;clear hd;refine bF ?_;refine aC (Tk hs ha hlo) ?_;rintro r H1 ⟨hx,b,hb,ho⟩;refine aA ?_;refine aK ?_;exact⟨hx,b,hb,ho⟩
 have hd:decide ((st:Int)=0)=false:=decide_eq_false byO;rw[if_neg h0];refine an ?_;clear hd;(try simp only[aD]);by_cases h9:st<9
 ·have hd:decide ((st:Int)<9)=true:=decide_eq_true byO
  have e:(st:Int)-1=((st-1:Nat):Int):=byO;rw[if_pos h9];refine bL ?_;clear hd;refine bF ?_;refine aC (Mi (a:=a) (st:=st-1) (first:=1) (lower:=false) hs ha byO byO hlo) ?_;rintro r H1 ⟨hx,b,hb,ho⟩;refine aA ?_;refine aK ?_;exact⟨hx,b,hb,ho⟩
 have hd:decide ((st:Int)<9)=false:=decide_eq_false byO;rw[if_neg h9];refine an ?_;clear hd;(try simp only[aD]);by_cases h17:st<17
 ·have hd:decide ((st:Int)<17)=true:=decide_eq_true byO
  have e:(st:Int)-9=((st-9:Nat):Int):=byO;rw[if_pos h17];refine bL ?_;clear hd;refine bF ?_;refine aC (Mi (a:=a) (st:=st-9) (first:=9) (lower:=true) hs ha byO byO hlo) ?_;rintro r H1 ⟨hx,b,hb,ho⟩;refine aA ?_;refine aK ?_;exact⟨hx,b,hb,ho⟩
 have hd:decide ((st:Int)<17)=false:=decide_eq_false byO;rw[if_neg h17];refine an ?_;clear hd;(try simp only[aD]);by_cases hx17:st=17
 ·have hd:decide ((st:Int)=17)=true:=decide_eq_true byO
  rw[if_pos hx17];replace hx17:st<=17:=byO;refine bL ?_;clear hd;refine bF ?_;refine aC (T5 hs ha hlo) ?_;rintro r H1 ⟨hx,b,hb,ho⟩;refine aA ?_;refine aK ?_;exact⟨hx,b,hb,ho⟩
 have hd:decide ((st:Int)=17)=false:=decide_eq_false byO;rw[if_neg hx17];refine an ?_;clear hd;refine bF ?_;refine aC (UB hs ha hlo) ?_;rintro r H1 ⟨hx,b,hb,ho⟩;refine aA ?_;refine aK ?_;exact⟨hx,b,hb,ho⟩
end
theorem yV(p:List UInt8)(cs:List Nat)(a st:Nat):(dQ p cs a st).length<=200:=by
 unfold dQ;split
 ·unfold qy
  have:=u7 p a;split<;>simp[sH]<;>omega
 ·split
  ·have:=tE (p:=p) (first:=1) (lower:=false) (L:=jH p a ((st-1)%4) (decide (4<=st-1)) false)
   have:=jI p a ((st-1)%4) (decide (4<=st-1)) false;simp only[kJ,ak₀];omega
  ·split
   ·have:=tE (p:=p) (first:=9) (lower:=true) (L:=jH p a ((st-9)%4) (decide (4<=st-9)) true)
    have:=jI p a ((st-9)%4) (decide (4<=st-9)) true;simp only[kJ,ak₀];omega
   ·split
    ·unfold tL;split<;>simp
    ·have:=xe (p:=p) (at':=a) 4 0 0
     unfold pJ;omega
structure SrW (A H:Heap)(sb cb:Nat)(v:Value)(p:List UInt8)(cs:List Nat):Prop where
 s:SrH H sb cb v p cs
 pl:SlU A v p
 ext:Ext A H
 cbA:A.length<=cb
 ne:sb≠cb
theorem SrW.mono{A H H':Heap}{sb cb:Nat}{v:Value}{p:List UInt8}{cs:List Nat}(h:SrW A H sb cb v p cs)(e:Ext H H'):SrW A H' sb cb v p cs:=
 ⟨h.s.ext e,h.pl,h.ext.trans e,h.cbA,h.ne⟩
theorem SrW.set{A H H':Heap}{sb cb i x:Nat}{v:Value}{p:List UInt8}{cs:List Nat}(h:SrW A H sb cb v p cs)(hk:Keep cb H H')(hg:H'.get cb=some (uN (cs.set i x)))(hx:x<=1073741824):SrW A H' sb cb v p (cs.set i x):=by
 have hA:=hk.ext h.ext h.cbA;refine⟨⟨hk.get h.s.g h.ne,hg,h.pl.mono hA,by simpa using h.s.len,h.s.hi,fun j=>?_⟩,h.pl,hA,h.cbA,h.ne⟩;by_cases hi:i<cs.length
 ·rw[mF hi];split
  ·exact hx
  ·exact h.s.le j
 ·rw[List.set_eq_of_length_le byO];exact h.s.le j
section
variable {lo:Nat}{A H:Heap}{sb cb:Nat}{v:Value}{p:List UInt8}{cs:List Nat}
open XYe
theorem VS{a:Nat}(hs:SrW A H sb cb v p cs)(ha:a<=p.length)(hlo:lo<=A.length):Ev cp lo 128 [ptr sb,aB a] H (fun _ H'=>Keep cb H H'/\∃cs',Stl (dQ p cs a) a cs cs'/\SrW A H' sb cb v p cs'):=by
 have hi:=hs.s.hi;have hcbl:=Heap.get_lt hs.s.c;have hsbl:=Heap.get_lt hs.s.g;have hA:=hs.cbA;refine stG rfl rfl ?_;unfold Kr;simp only[kB,aD];refine aA ?_;have hxb:Ext H (H++[some (List.replicate 19 (Value.slice none 0 0))]):=Ext.app _ _;have hgb:(H++[some (List.replicate 19 (Value.slice none 0 0))]).get H.length=some (List.replicate 19 (Value.slice none 0 0)):=aF;have hlc:(H++[some (List.replicate 19 (Value.slice none 0 0))]).length<=H.length+1/\H.length+1<=(H++[some (List.replicate 19 (Value.slice none 0 0))]).length:=by simp
 change wpS cp lo _ _ _ (H++[some (List.replicate 19 (Value.slice none 0 0))]);have hX0:(List.replicate 19 (Value.slice none 0 0)).length<=19/\19<=(List.replicate 19 (Value.slice none 0 0)).length:=by simp
 generalize List.replicate 19 (Value.slice none 0 0)=X0 at *;generalize H++[some X0]=H0 at hxb hgb hlc;obtain⟨OL,hOL⟩:∃OL,False\/dQ p cs a=OL:=⟨_,.inr rfl⟩;refine c8 (fun S' H'=>(SrW A H' sb cb v p cs/\Ext H H')/\(∃X:List Value,(X.length<=19/\19<=X.length)/\H'.get H.length=some X/\∀i,i<19->∃w b,X[i]?=some w/\H.length<b/\OwnG lo 7 H' w b (cat aQ (dQ p cs a i)))/\∃(z:Nat->Value),S'=[ptr sb,aB a,ptr H.length,z 3,z 4,z 5,z 6,z 7,z 8,z 9,z 10,z 11,z 12,z 13,z 14,z 15,z 16,z 17,z 18]) ?_ ?_
 ·refine aS (fun k S H'=>Ext H H'/\(∃X:List Value,(X.length<=19/\19<=X.length)/\H'.get H.length=some X/\∀i,i<k->∃w b,X[i]?=some w/\H.length<b/\OwnG lo 7 H' w b (cat aQ (dQ p cs a i)))/\∃(z:Nat->Value),S=[ptr sb,aB a,ptr H.length,z 3,z 4,z 5,z 6,z 7,z 8,.int .i64 (k:Nat),z 10,z 11,z 12,z 13,z 14,z 15,z 16,z 17,z 18]) 19 ⟨hxb,⟨X0,hX0,hgb,fun i hi=>absurd hi byO⟩,aH rfl⟩ ?_ ?_ ?_
  ·rintro k S H' hk ⟨h1,h2,z,rfl⟩
   exact⟨decide ((k:Int)<19),by simp(disch:=try exact dO)only[evB,xtr,Nat.reduceAdd,Nat.reduceBEq,Int.reduceToNat, *],by simp;omega⟩
  ·rintro k S H1 hk ⟨hx1,⟨X,hX,hgX,hXi⟩,z,rfl⟩
   have hl1:=hx1.1;have hXl:=Heap.get_lt hgX;replace hXi:False\/_:=.inr hXi;refine aA ?_;refine aT ?_;refine aC (Ro (lo:=lo) (st:=k) (hs.s.ext hx1) ha hk byO) ?_;rintro r H2 ⟨hx2,b,hb,ho⟩;obtain⟨ad,rfl⟩:=ho.len byO gm;have hgX2:=hx2.get hgX;have hl2:=hx2.1;obtain⟨q,hq⟩:∃q,False\/(dQ p cs a k).length=q:=⟨_,.inr rfl⟩;rw[hq.resolve_left id]at ho ⊢;refine aA ?_;have hk2:Keep H.length H2 (List.set H2 H.length (some (X.set k (Value.slice ad q q)))):=keepSet;refine⟨hk2.ext (hx1.trans hx2) (Nat.le_refl _),⟨_,by simp;omega,aG byO,fun i hi=>?_⟩,aH ncM⟩;by_cases hik:i=k
   ·subst hik
    exact⟨_,b,List.getElem?_set_self byO,byO,ho.keep hk2 byO⟩
   ·obtain⟨w,b',h1,h2,h3⟩:=hXi.resolve_left id i byO
    exact⟨w,b',by rw[List.getElem?_set_ne byO];exact h1,h2,(h3.mono hx2).keep hk2 byO⟩
  ·rintro S H1 ⟨hx1,hX,z,rfl⟩
   (try simp only[aD]);exact⟨⟨hs.mono hx1,hx1⟩,hX,aH rfl⟩
 ·rintro S H1 ⟨⟨hs1,hx1⟩,⟨X,hX,hgX,hXi⟩,z,rfl⟩
  have hok:∀k,∀o ∈ dQ p cs a k,o.ok p.length a:=fun k=>iY ha;have hLl:False\/∀k,(dQ p cs a k).length<=200:=.inr (yV p cs a);generalize dQ p cs a=L at hXi hok hLl ⊢;clear hOL;obtain⟨F,hF⟩:∃F:Heap->Prop,∀H',F H'↔(H'.get H.length=some X/\∀i,i<19->∃w b,X[i]?=some w/\H.length<b/\OwnG lo 7 H' w b (cat aQ (L i))):=⟨_,fun _=>Iff.rfl⟩;have hFk:∀{H' H''},F H'->Keep cb H' H''->F H'':=by
   intro H' H'' h1 h2;obtain⟨g1,g2⟩:=(hF _).1 h1;refine(hF _).2 ⟨h2.get g1 byO,fun i hi=>?_⟩;obtain⟨w,b,e1,e2,e3⟩:=g2 i hi;exact⟨w,b,e1,e2,e3.keep h2 byO⟩
  have hF1:F H1:=(hF _).2 ⟨hgX,hXi⟩;clear hgX hXi;refine aA ?_;refine aY (fun m S H'=>∃(c1:List Nat) (t:Bool),((Keep cb H H'/\SrW A H' sb cb v p c1)/\F H')/\((t=true/\m=c1.sum+1/\∀c',Stl L a c1 c'->Stl L a cs c')\/(t=false/\m=0/\Stl L a cs c1))/\∃(z:Nat->Value),S=[ptr sb,aB a,ptr H.length,z 3,.bool t,z 5,z 6,z 7,z 8,z 9,z 10,z 11,z 12,z 13,z 14,z 15,z 16,z 17,z 18]) (cs.sum+1) ⟨cs,true,⟨⟨Ext.keep hx1,hs1⟩,hF1⟩,.inl ⟨rfl,rfl,fun _ h=>h⟩,aH rfl⟩ ?_;clear hF1 hs1 hx1;rintro m S H2 ⟨c1,t,⟨⟨hk2,hs2⟩,hF2⟩,hcase,z,rfl⟩;rcases hcase with ⟨rfl,hm,hst⟩|⟨rfl,hm,hst⟩
  ·replace hst:False\/_:=.inr hst
   replace hm:m<=c1.sum+1/\c1.sum+1<=m:=byO;obtain⟨hgX,hXi⟩:=(hF _).1 hF2;replace hXi:False\/_:=.inr hXi;(try simp only[aD]);refine bL ?_;refine aA ?_;rw[List.take_of_length_le hX.1];refine aS (fun k S H'=>((Keep cb H H'/\SrW A H' sb cb v p (round L a k (c1,false)).1)/\F H')/\∃(z:Nat->Value),S=[ptr sb,aB a,ptr H.length,z 3,.bool (round L a k (c1,false)).2,z 5,z 6,z 7,z 8,z 9,z 10,z 11,.agg X.toArray,.int .i64 (k:Nat),z 14,z 15,z 16,z 17,z 18]) 19 ⟨⟨⟨hk2,hs2⟩,hF2⟩,aH rfl⟩ ?_ ?_ ?_
   ·rintro k S H' hk ⟨h1,z,rfl⟩
    exact⟨decide ((k:Int)<19),by simp(disch:=try exact dO)only[evB,xtr,Nat.reduceAdd,Nat.reduceBEq,Int.reduceToNat, *],by simp;omega⟩
   ·rintro k S H3 hk ⟨⟨⟨hk3,hs3⟩,hF3⟩,z,rfl⟩
    clear hF2 hk2 hs2 hgX hXi;obtain⟨hgX,hXi⟩:=(hF _).1 hF3;obtain⟨w,b,hw,hb,ho⟩:=hXi k hk;obtain⟨aw,rfl⟩:=ho.len byO gm;clear hXi;have hr:round L a (k+1) (c1,false)=eI (a*19+k) (L k) (round L a k (c1,false)):=rfl;have hokk:=hok k;rw[hr];clear hr;generalize round L a k (c1,false)=s at hs3 ⊢;have hKl:=hLl.resolve_left id k;generalize hLK:L k=K at ho hokk hw hKl ⊢;clear hLK hgX;refine aA ?_;refine aS (fun j S H'=>((Keep cb H H'/\SrW A H' sb cb v p (eI (a*19+k) (K.take j) s).1)/\Keep cb H3 H')/\∃(z:Nat->Value),S=[ptr sb,aB a,ptr H.length,z 3,.bool (eI (a*19+k) (K.take j) s).2,aB k,z 6,z 7,z 8,z 9,z 10,z 11,.agg X.toArray,.int .i64 (k:Nat),.slice aw K.length K.length,.int .i64 (K.length:Nat),.int .i64 (j:Nat),z 17,z 18]) K.length ⟨⟨⟨hk3,hs3⟩,Ext.keep (Ext.refl _)⟩,aH rfl⟩ ?_ ?_ ?_
    ·rintro j S H' hj ⟨h1,z,rfl⟩
     exact⟨decide ((j:Int)<(K.length:Nat)),by simp(disch:=try exact dO)only[evB,xtr,Nat.reduceAdd,Nat.reduceBEq,Int.reduceToNat, *],by simp⟩
    ·rintro j S H4 hj ⟨⟨⟨hk4,hs4⟩,hk34⟩,z,rfl⟩
     clear hs3;have ho4:=ho.keep hk34 byO;obtain⟨p4,o4,X4,i4,g4,l4,e4⟩:=ho4.at byO gm hj;have hoo:=hokk _ (List.getElem_mem hj);have hr:eI (a*19+k) (K.take (j+1)) s=j5 (a*19+k) (eI (a*19+k) (K.take j) s) K[j]:=by
      rw[List.take_succ_eq_append_getElem hj,A5];rfl
     rw[hr];clear hr hokk ho4;generalize eI (a*19+k) (K.take j) s=s4 at hs4 ⊢;generalize K[j]=o at e4 hoo ⊢;have hl4:=hk4.len;refine aA ?_;change wpS cp lo _ _ _ (H4++[some (aQ o)]);have hxc:Ext H4 (H4++[some (aQ o)]):=Ext.app _ _;have hgo:(H4++[some (aQ o)]).get H4.length=some (aQ o):=aF;generalize H4++[some (aQ o)]=H5 at hxc hgo;clear i4 g4 l4 e4;have hs5:=hs4.mono hxc;have o1:=hoo.sz;have o2:=hoo.run;have o3:=hoo.nx;have o4:=hoo.md;clear hoo;refine aT ?_;refine aC (KS (lo:=lo) (o:=o) hs5.s byO) ?_;rintro r H6 ⟨hx6,rfl⟩;have hs6:=hs5.mono hx6;have hk46:Keep cb H4 H6:=Ext.keep (hxc.trans hx6);have hl6:=hk46.len;have hrel:j5 (a*19+k) s4 o=if bP s4.1 o<s4.1.getD (a*19+k) 0 then(s4.1.set (a*19+k) (bP s4.1 o),true) else s4:=rfl
     replace hrel:False\/_:=.inr hrel;clear hgo hs5 hs4;obtain⟨ss,bb⟩:=s4;simp only at hs6 hrel ⊢;generalize bP ss o=x at hrel;have hgs:=hs6.s.g;have hgc:=hs6.s.c;have hlen:=hs6.s.len;have hidx:a*19+k<ss.length:=byO;have hat:=nC hidx;have hle:=hs6.s.le (a*19+k);have hul:(uN ss).length<=ss.length/\ss.length<=(uN ss).length:=by simp
     have hset:False\/∀y,(uN ss).set (a*19+k) (aB y)=uN (ss.set (a*19+k) y):=.inr (fun y=>by simp[uN,List.map_set]);generalize ss.getD (a*19+k) 0=y at hat hrel hle;generalize uN ss=Y at hgc hat hul hset;replace hlen:ss.length<=(p.length+1)*19/\(p.length+1)*19<=ss.length:=byO;refine aA ?_;by_cases hxy:x<y
     ·have hd:decide ((x:Int)<(y:Nat))=true:=decide_eq_true byO
      refine bL ?_;clear hd;refine aA ?_;have e:=hrel.resolve_left id;rw[if_pos hxy]at e;rw[e];clear e;have e2:=hset.resolve_left id x;have hk7:Keep cb H6 (List.set H6 cb (some (Y.set (a*19+k) (Value.int .i64 (x:Nat))))):=keepSet;have hg7:Heap.get (List.set H6 cb (some (Y.set (a*19+k) (Value.int .i64 (x:Nat))))) cb=some (Y.set (a*19+k) (Value.int .i64 (x:Nat))):=aG byO;refine⟨⟨⟨az hk4 (.inl rfl) (az hk46 (.inl rfl) hk7),hs6.set hk7 (by rw[hg7];exact congrArg some e2) byO⟩,az hk34 (.inl rfl) (az hk46 (.inl rfl) hk7)⟩,aH ncM⟩
     ·have hd:decide ((x:Int)<(y:Nat))=false:=decide_eq_false byO
      have e:=hrel.resolve_left id;rw[if_neg hxy]at e;rw[e];clear e;refine aP ?_ ?_<;>intro h
      ·simp at h
      ·clear h hd
       refine aA ?_;exact⟨⟨⟨az hk4 (.inl rfl) hk46,hs6⟩,az hk34 (.inl rfl) hk46⟩,aH ncM⟩
    ·rintro S H4 ⟨⟨⟨hk4,hs4⟩,hk34⟩,z,rfl⟩
     rw[List.take_length]at hs4 ⊢;refine aA ?_;exact⟨⟨⟨hk4,hs4⟩,hFk hF3 hk34⟩,aH ncM⟩
   ·rintro S H3 ⟨⟨⟨hk3,hs3⟩,hF3⟩,z,rfl⟩
    have hrow:=pa (L:=L) (a:=a) (s:=(c1,false)) 19 (Nat.le_refl _);obtain⟨d,t,hdt⟩:∃d t,round L a 19 (c1,false)=(d,t):=⟨_,_,rfl⟩;rw[hdt]at hs3 hrow ⊢;clear hgX hXi hk2 hs2 hF2;(try simp only[aD]);refine⟨if t then d.sum+1 else 0,?_,d,t,⟨⟨hk3,hs3⟩,hF3⟩,?_,aH rfl⟩
    ·cases t with
     | true=>
      rcases hrow.fl rfl with h|h
      ·cases h
      ·simp only at h ⊢;simp;omega
     | false=>simp;omega
    ·cases t with
     | true=>exact .inl ⟨rfl,rfl,fun c' h=>hst.resolve_left id c' (.more hdt h)⟩
     | false=>exact .inr ⟨rfl,rfl,hst.resolve_left id _ (.done hdt)⟩
  ·replace hst:False\/_:=.inr hst
   replace hm:m<=0:=byO;(try simp only[aD]);refine an ?_
   ·(try simp only[aD])
    refine dR (by simp(disch:=try exact dO)only[evB,xtr,Nat.reduceAdd,Nat.reduceBEq,Int.reduceToNat, *];rfl) ?_;exact⟨hk2,c1,hst.resolve_left id,hs2⟩
end
theorem K8(n:Nat):bH (List.replicate 19 (Value.int .i64 0)) n=uN (List.replicate (n*19) 0):=by
 have:bH (List.replicate 19 (Value.int .i64 0)) n=List.replicate (n*19) (Value.int .i64 0):=by
  unfold bH
  induction n with
  | zero=>rfl
  | succ n ih=>rw[List.replicate_succ,List.flatten_cons,ih,List.replicate_append_replicate,Nat.succ_mul,Nat.add_comm]
 rw[this,uN,List.map_replicate];rfl
section
variable {lo:Nat}{H:Heap}{v:Value}{p:List UInt8}
open XYe
theorem Uh(hp:SlU H v p)(hl:p.length<=4096)(hlo:lo<=H.length):Ev cp lo 75 [v] H (fun r H'=>Ext H H'/\∃sb cb cs,r=ptr sb/\New p 0 cs/\SrW H H' sb cb v p cs):=by
 obtain⟨ad,c,ev⟩:=hp.len;subst ev;have htn:((p.length:Int)+1).toNat=p.length+1:=byO;refine stG rfl rfl ?_;unfold Qc;simp only[kB,aD];refine aA ?_;clear htn;generalize hC:uN (List.replicate ((p.length+1)*19) 0)=C;have hz:=(K8 (p.length+1)).trans hC;change bH [Value.int .i64 0,Value.int .i64 0,Value.int .i64 0,Value.int .i64 0,Value.int .i64 0,Value.int .i64 0,Value.int .i64 0,Value.int .i64 0,Value.int .i64 0,Value.int .i64 0,Value.int .i64 0,Value.int .i64 0,Value.int .i64 0,Value.int .i64 0,Value.int .i64 0,Value.int .i64 0,Value.int .i64 0,Value.int .i64 0,Value.int .i64 0] (p.length+1)=C at hz;rw[hz];clear hz;have hxb:Ext H (H++[some C,some [Value.slice ad p.length c,.slice (some ⟨H.length,0,none⟩) (p.length+1) (p.length+1)]]):=Ext.app _ _;have hg0:(H++[some C,some [Value.slice ad p.length c,.slice (some ⟨H.length,0,none⟩) (p.length+1) (p.length+1)]]).get H.length=some C:=aF;have hg1:(H++[some C,some [Value.slice ad p.length c,.slice (some ⟨H.length,0,none⟩) (p.length+1) (p.length+1)]]).get (H.length+1)=some [Value.slice ad p.length c,.slice (some ⟨H.length,0,none⟩) (p.length+1) (p.length+1)]:=by rw[bC];rfl
 generalize H++[some C,some [Value.slice ad p.length c,.slice (some ⟨H.length,0,none⟩) (p.length+1) (p.length+1)]]=H0 at hxb hg0 hg1;have hs0:SrW H H0 (H.length+1) H.length (.slice ad p.length c) p (List.replicate ((p.length+1)*19) 0):=by
  refine⟨⟨hg1,by rw[hC];exact hg0,hp.mono hxb,by simp,hl,fun i=>?_⟩,hp,hxb,Nat.le_refl _,byO⟩;simp only[au₀,List.getElem?_replicate];split<;>simp
 clear hg0 hg1 hC;have hn0:New p (p.length+1) (List.replicate ((p.length+1)*19) 0):=.start;generalize List.replicate ((p.length+1)*19) 0=cs at hs0 hn0;refine aS (fun k S H'=>(∃cs,New p (p.length+1-k) cs/\SrW H H' (H.length+1) H.length (.slice ad p.length c) p cs)/\∃(z:Nat->Value),S=[.slice ad p.length c,z 1,ptr (H.length+1),.int .i64 ((p.length:Int)-(k:Nat)),z 4,z 5,z 6,z 7,z 8]) (p.length+1) ⟨⟨cs,hn0,hs0⟩,aH (by simp)⟩ ?_ ?_ ?_
 ·rintro k S H' hk ⟨h1,z,rfl⟩
  exact⟨decide ((0:Int)<=(p.length:Int)-(k:Nat)),by simp(disch:=try exact dO)only[evB,xtr,Nat.reduceAdd,Nat.reduceBEq,Int.reduceToNat, *],by simp;omega⟩
 ·rintro k S H1 hk ⟨⟨cs,hn,hs⟩,z,rfl⟩
  obtain⟨a,ha,hak⟩:∃a:Nat,(p.length:Int)-(k:Nat)=(a:Nat)/\p.length+1-k=a+1/\p.length+1-(k+1)=a/\a<=p.length:=⟨p.length-k,byO,byO⟩;have ha2:(p.length:Int)-((k+1:Nat):Nat)=(a:Nat)-1:=byO;rw[hak.2.1,ha2,ha];rw[hak.1]at hn;obtain⟨_,_,hap⟩:=hak;clear ha2 ha hs0 hn0;replace hn:False\/_:=.inr hn;have hx1:=hs.ext;have hl1:=hx1.1;refine aA ?_;refine aS (fun j S H'=>SrW H H' (H.length+1) H.length (.slice ad p.length c) p (sj p.length a cs j)/\∃(z:Nat->Value),S=[.slice ad p.length c,z 1,ptr (H.length+1),aB a,z 4,z 5,z 6,z 7,.int .i64 (j:Nat)]) 19 ⟨hs,aH rfl⟩ ?_ ?_ ?_
  ·rintro j S H' hj ⟨h1,z,rfl⟩
   exact⟨decide ((j:Int)<19),by simp(disch:=try exact dO)only[evB,xtr,Nat.reduceAdd,Nat.reduceBEq,Int.reduceToNat, *],by simp;omega⟩
  ·rintro j S H2 hj ⟨hs2,z,rfl⟩
   have hr:sj p.length a cs (j+1)=(sj p.length a cs j).set (a*19+j) 1073741824:=rfl;rw[hr];clear hr;generalize sj p.length a cs j=ss at hs2 ⊢;have hgs:=hs2.s.g;have hgc:=hs2.s.c;have hll:=Heap.get_lt hgc;have hlen:=hs2.s.len;have hidx:a*19+j<ss.length:=byO;have hul:(uN ss).length<=ss.length/\ss.length<=(uN ss).length:=by simp
   have hset:False\/(uN ss).set (a*19+j) (aB 1073741824)=uN (ss.set (a*19+j) 1073741824):=.inr (by simp[uN,List.map_set]);generalize uN ss=Y at hgc hul hset;replace hlen:ss.length<=(p.length+1)*19/\(p.length+1)*19<=ss.length:=byO;refine aA ?_;have hk7:Keep H.length H2 (List.set H2 H.length (some (Y.set (a*19+j) (Value.int .i64 1073741824)))):=keepSet;have hg7:Heap.get (List.set H2 H.length (some (Y.set (a*19+j) (Value.int .i64 1073741824)))) H.length=some (Y.set (a*19+j) (Value.int .i64 1073741824)):=aG byO;exact⟨hs2.set hk7 (by rw[hg7];exact congrArg some (hset.resolve_left id)) byO,aH ncM⟩
  ·rintro S H2 ⟨hs2,z,rfl⟩
   (try simp only[aD]);refine ba (fun S' H'=>SrW H H' (H.length+1) H.length (.slice ad p.length c) p (wX p.length a cs)/\∃(z:Nat->Value),S'=[.slice ad p.length c,z 1,ptr (H.length+1),aB a,z 4,z 5,z 6,z 7,z 8]) ?_ ?_
   ·unfold wX
    generalize sj p.length a cs 19=ss at hs2 ⊢;by_cases han:a=p.length
    ·have hd:decide ((a:Int)=(p.length:Nat))=true:=decide_eq_true byO
     rw[if_pos han];replace han:a<=p.length/\p.length<=a:=byO;have hgs:=hs2.s.g;have hgc:=hs2.s.c;have hll:=Heap.get_lt hgc;have hlen:=hs2.s.len;have hidx:a*19<ss.length:=byO;have hul:(uN ss).length<=ss.length/\ss.length<=(uN ss).length:=by simp
     have hset:False\/(uN ss).set (a*19) (aB 0)=uN (ss.set (a*19) 0):=.inr (by simp[uN,List.map_set]);generalize uN ss=Y at hgc hul hset;replace hlen:ss.length<=(p.length+1)*19/\(p.length+1)*19<=ss.length:=byO;refine bL ?_;clear hd;refine aA ?_;have hk7:Keep H.length H2 (List.set H2 H.length (some (Y.set (a*19) (Value.int .i64 0)))):=keepSet;have hg7:Heap.get (List.set H2 H.length (some (Y.set (a*19) (Value.int .i64 0)))) H.length=some (Y.set (a*19) (Value.int .i64 0)):=aG byO;exact⟨hs2.set hk7 (by rw[hg7];exact congrArg some (hset.resolve_left id)) byO,aH ncM⟩
    ·have hd:decide ((a:Int)=(p.length:Nat))=false:=decide_eq_false byO
     rw[if_neg han];refine an ?_
     ·(try simp only[aD])
      exact⟨hs2,aH ncM⟩
   ·rintro S' H3 ⟨hs3,z,rfl⟩
    generalize hR:wX p.length a cs=cs3 at hs3;replace hR:False\/_:=.inr hR;refine bF ?_;refine aC (VS (lo:=lo) hs3 hap hlo) ?_;rintro r H4 ⟨hk4,cs4,hst,hs4⟩;replace hst:False\/_:=.inr hst;refine aA ?_;refine⟨⟨cs4,.step (hn.resolve_left id) ?_,hs4⟩,aH ncM⟩;rw[hR.resolve_left id];exact hst.resolve_left id
 ·rintro S H1 ⟨⟨cs,hn,hs⟩,z,rfl⟩
  rw[Nat.sub_self]at hn;have hx:=hs.ext;replace hn:False\/_:=.inr hn;refine aA ?_;refine aK ?_;exact⟨hx,_,_,cs,rfl,hn.resolve_left id,hs⟩
end
def Agr(a:Nat)(c c':List Nat):Prop:=∀j,a*19<=j->c'.getD j 0=c.getD j 0
theorem tD{a:Nat}{c c':List Nat}{o:Opt}(h:Agr a c c')(ho:a<=o.nx):bP c' o=bP c o:=by
 unfold bP;rw[h _ byO]
theorem qa(a n:Nat):(dC a n).nx=a+n:=by grind[dC]
theorem xD{a:Nat}{c c':List Nat}(h:Agr (a+1) c c'):∀n,iA c' a n=iA c a n
 | 0=>rfl
 | n+1=>by
  by_cases hn:n=0
  ·subst hn;rfl
  ·obtain⟨k,h1,h2,h3⟩:=nr (cs:=c) (at':=a) n byO
   rw[iA,iA,if_neg hn,if_neg hn,xD h n,tD (o:=dC a (n+1)) h (by grind[qa]),h3,tD (o:=dC a k) h (by grind[qa])]
theorem oZ{a:Nat}{c c':List Nat}(h:Agr (a+1) c c')(st:Nat):dQ p c' a st=dQ p c a st:=by
 grind[dQ,qy,vH,xD]
structure RowOK (p:List UInt8)(c:List Nat)(b:Nat):Prop where
 fix:∀k,k<19->∀o ∈ dQ p c b k,c.getD (b*19+k) 0<=bP c o
 got:∀k,k<19->c.getD (b*19+k) 0=1073741824\/(b=p.length/\k=0/\c.getD (b*19+k) 0=0)\/∃o ∈ dQ p c b k,c.getD (b*19+k) 0=bP c o
 fin:b=p.length->c.getD (b*19) 0=0
theorem RowOK.agr{p:List UInt8}{c c':List Nat}{b:Nat}(h:RowOK p c b)(hb:b<=p.length)(e:Agr b c c'):RowOK p c' b:=by
 have e1:Agr (b+1) c c':=fun j hj=>e j byO;have hk:∀k,c'.getD (b*19+k) 0=c.getD (b*19+k) 0:=fun k=>e _ byO;have ht:∀k,∀o ∈ dQ p c b k,bP c' o=bP c o:=fun k o ho=>tD e (iY hb o ho).nx.1;refine⟨fun k h1 o ho=>?_,fun k h1=>?_,fun hb=>?_⟩
 ·rw[oZ e1]at ho
  rw[hk,ht k o ho];exact h.fix k h1 o ho
 ·grind[oZ,got]
 ·have:=hk 0
  grind[fin]
theorem yq{n a:Nat}{c:List Nat}(hl:a*19+19<=c.length):∀k,k<=19->(sj n a c k).length=c.length/\∀j,(sj n a c k).getD j 0=if a*19<=j/\j<a*19+k then 1073741824 else c.getD j 0
 | 0,_=>⟨rfl,fun j=>by rw[if_neg byO];rfl⟩
 | k+1,h=>by
  obtain⟨h1,h2⟩:=yq (n:=n) hl k byO
  grind[sj]
theorem Gu{n a:Nat}{c:List Nat}(hl:a*19+19<=c.length):(wX n a c).length=c.length/\∀j,(wX n a c).getD j 0=if a*19<=j/\j<a*19+19 then(if a=n/\j=a*19 then 0 else 1073741824) else c.getD j 0:=by
 obtain⟨h1,h2⟩:=yq (n:=n) hl 19 (Nat.le_refl _);unfold wX;split
 ·refine⟨by simp[h1],fun j=>?_⟩
  rw[mF byO,h2];by_cases e2:j=a*19
  all_goals simp_all
 simp_all
theorem O2{a:Nat}{c:List Nat}(h:New p a c):(c.length=(p.length+1)*19/\∀j,c.getD j 0<=1073741824)/\∀b,a<=b->b<=p.length->RowOK p c b:=by
 induction h with
 | start=>exact⟨⟨by simp,fun j=>by simp only[au₀,List.getElem?_replicate];split<;>simp⟩,fun b h1 h2=>byO⟩
 | @step a c c' hn hs ih=>
  obtain⟨⟨hl,hle⟩,hr⟩:=ih;have ha:=O1 hn;have hal:a*19+19<=c.length:=by
   rw[hl];have:=Nat.mul_le_mul_right 19 (show a+1<=p.length+1 by omega);omega
  obtain⟨g1,g2⟩:=Gu (n:=p.length) hal;have hf:=KP hs;have hag:Agr (a+1) c c':=by
   intro j hj;rw[hf.ne j byO,g2,if_neg byO]
  have hag1:Agr (a+1) (wX p.length a c) c':=fun j hj=>hf.ne j byO;have hle2:∀j,c'.getD j 0<=1073741824:=by
   intro j;refine Nat.le_trans (hf.le j) ?_;rw[g2];split
   ·split<;>omega
   ·exact hle j
  refine⟨⟨by rw[hf.len,g1,hl],hle2⟩,fun b h1 h2=>?_⟩;by_cases hb:b=a
  ·subst hb
   refine⟨fun k hk o ho=>?_,fun k hk=>?_,fun e=>?_⟩
   ·rw[oZ hag1]at ho
    exact hf.fix k hk o ho
   ·rcases hf.got k hk with h|⟨o,ho,h⟩
    ·rw[g2,if_pos byO]at h
     by_cases e:b=p.length/\b*19+k=b*19
     ·rw[if_pos e]at h
      exact .inr (.inl ⟨e.1,byO,h⟩)
     ·rw[if_neg e]at h
      exact .inl h
    ·exact .inr (.inr ⟨o,by rw[oZ hag1];exact ho,h⟩)
   ·have h:=hf.le (b*19)
    rw[g2,if_pos byO,if_pos ⟨e,rfl⟩]at h;omega
  ·exact(hr b byO h2).agr h2 fun j hj=>hag j (by have:=Nat.mul_le_mul_right 19 (show a+1<=b by omega);omega)
structure Sol (p:List UInt8)(c:List Nat):Prop where
 len:c.length=(p.length+1)*19
 le:∀j,c.getD j 0<=1073741824
 row:∀b,b<=p.length->RowOK p c b
theorem Bn{c:List Nat}(h:New p 0 c):Sol p c:=by
 obtain⟨⟨h1,h3⟩,h2⟩:=O2 h;exact⟨h1,h3,fun b hb=>h2 b byO hb⟩
abbrev cst(c:List Nat)(a st:Nat):Nat:=c.getD (a*19+st) 0
theorem Ca{c:List Nat}{a:Nat}(ha:a<p.length):eL (by' p a) a ∈ dQ p c a 0:=by
 grind[dQ,qy]
theorem Cb(c:List Nat)(b a:Nat):bP c (eL b a)<=2+cst c (a+1) 0:=by
 grind[bP,eL]
theorem lK{p:List UInt8}{c:List Nat}(h:Sol p c):∀m a,a+m=p.length->cst c a 0<=2*m
 | 0,a,e=>by
  have:=(h.row a byO).fin byO
  simp_all
 | m+1,a,e=>by
  have h1:=(h.row a byO).fix 0 byO _ (Ca byO);have h2:=Cb c (by' p a) a;have h3:=lK h m (a+1) byO
  grind
theorem CL{c:List Nat}(h:Sol p c){a st:Nat}(ha:a<=p.length)(hs:st<19)(hc:cst c a st<1073741824)(hn:¬ (st=0/\a=p.length)):∃o ∈ dQ p c a st,bP c o=cst c a st:=by
 rcases(h.row a ha).got st hs with h|h|⟨o,ho,h⟩
 ·simp only[cst]at hc;omega
 ·exact absurd ⟨h.2.1,h.1⟩ hn
 ·exact⟨o,ho,h.symm⟩
theorem yW{c:List Nat}{a st:Nat}:∀o ∈ dQ p c a st,o.run=0\/(o.nx=a+o.run/\o ∈ [vH p c a]/\a<p.length/\st=0):=by
 intro o ho;have hT:∀{s f l},o ∈ kJ p a s f l->o.run=0:=by
  intro s f l ho;rcases List.mem_cons.1 ho with rfl|ho
  ·rfl
  ·unfold wq tX tF at ho
   obtain⟨u,hu,ho⟩:=List.mem_flatMap.1 ho;obtain⟨v,hv,ho⟩:=List.mem_flatMap.1 ho;obtain⟨w,hw,rfl⟩:=List.mem_map.1 ho;rfl
 have hE:∀{k n g},o ∈ jA p a k n g->o.run=0:=by
  intro k
  induction k with
  | zero=>intro n g ho;simp only[jA]at ho;obtain rfl:=List.mem_singleton.1 ho;rfl
  | succ k ih=>
   intro n g ho;simp only[jA]at ho;rcases List.mem_cons.1 ho with rfl|ho
   ·rfl
   grind
 unfold dQ at ho;split at ho
 ·rename_i hst
  unfold qy at ho;rcases List.mem_append.1 ho with ho|ho
  ·grind[fk]
  ·split at ho
   ·rename_i hap
    simp only[be₀,List.mem_singleton]at ho;rcases ho with (rfl|ho)|rfl
    ·grind[eL]
    ·grind[kE]
    ·right
     obtain⟨k,h1,h2,e⟩:=nr (cs:=c) (at':=a) (min (p.length-a) 1749) byO
     grind[vH,dC]
   ·cases ho
 ·left
  split at ho
  ·exact hT ho
  ·split at ho
   ·exact hT ho
   ·split at ho
    ·unfold tL at ho
     rcases List.mem_cons.1 ho with rfl|ho
     ·rfl
     ·split at ho
      ·obtain rfl:=List.mem_singleton.1 ho;rfl
      ·cases ho
    ·exact hE ho
def hd(o:Opt):List Nat:=[o.h0,o.h1,o.h2].take o.sz
theorem rq{o:Opt}(h:o.sz<=3):(hd o).length=o.sz:=by grind[hd]
def df:List Nat->List Nat->Int
 | [],[]=>0
 | [],_::_=>-1
 | _::_,[]=>1
 | a::l,b::m=>if a<b then -1 else if b<a then 1 else df l m
def fo(c:List Nat)(cost:Nat)(best o:Opt):Opt:=if bP c o=cost/\(best.sz=0\/df (hd o) (hd best)<0) then o else best
def nw(c:List Nat)(cost:Nat)(L:List Opt):Opt:=L.foldl (fo c cost) cC
def chs(p:List UInt8)(c:List Nat)(a st:Nat):Opt:=nw c (cst c a st) (dQ p c a st)
theorem Cg{c:List Nat}{cost:Nat}{L:List Opt}{o:Opt}:nw c cost (L++[o])=fo c cost (nw c cost L) o:=by grind[nw]
theorem rl{c:List Nat}{cost:Nat}:∀(L D:List Opt) (b:Opt),((b=cC/\∀o ∈ D,bP c o≠cost)\/(b ∈ D/\bP c b=cost)) ->
  ((L.foldl (fo c cost) b=cC/\∀o ∈ D++L,bP c o≠cost)\/(L.foldl (fo c cost) b ∈ D++L/\bP c (L.foldl (fo c cost) b)=cost))
 | [],D,b,h=>by simpa using h
 | o::L,D,b,h=>by
  have key:((fo c cost b o=cC/\∀o' ∈ D++[o],bP c o'≠cost)\/(fo c cost b o ∈ D++[o]/\bP c (fo c cost b o)=cost)):=by
   unfold fo;by_cases ht:bP c o=cost
   ·by_cases hb:b.sz=0\/df (hd o) (hd b)<0
    ·simp_all
    ·rw[if_neg (fun h=>hb h.2)]
     rcases h with ⟨h1,h2⟩|⟨h1,h2⟩
     ·exact absurd (.inl (by rw[h1];rfl)) hb
     simp_all
   grind
  have:=rl L (D++[o]) (fo c cost b o) key
  simp_all
theorem rJ{c:List Nat}{cost:Nat}{L:List Opt}:(nw c cost L=cC/\∀o ∈ L,bP c o≠cost)\/(nw c cost L ∈ L/\bP c (nw c cost L)=cost):=by
 have:=rl (c:=c) (cost:=cost) L [] cC (.inl ⟨rfl,by simp⟩)
 assumption
theorem zR{c:List Nat}(h:Sol p c){a st:Nat}(ha:a<=p.length)(hs:st<19)(hc:cst c a st<1073741824)(hn:¬ (st=0/\a=p.length)):chs p c a st ∈ dQ p c a st/\bP c (chs p c a st)=cst c a st:=by
 obtain⟨o,ho,ht⟩:=CL h ha hs hc hn;rcases rJ (c:=c) (cost:=cst c a st) (L:=dQ p c a st)with ⟨_,h2⟩|h2
 ·simp_all
 ·exact h2
def msk(i:Nat):Nat:=149*(i+1)%255+1
def mk(k:Nat):List Nat->List Nat
 | []=>[]
 | x::l=>((x+msk k)%256)::mk (k+1) l
theorem nT:∀(k:Nat) (l:List Nat),(mk k l).length=l.length
 | k,[]=>rfl
 | k,x::l=>by simp[mk,nT (k+1) l]
theorem ql:∀(k:Nat) (l:List Nat) (x:Nat),mk k (l++[x])=mk k l++[(x+msk (k+l.length))%256]
 | k,[],x=>rfl
 | k,y::l,x=>by
  simp only[am₀,mk,ql (k+1) l x]
  grind
theorem GF:∀(k:Nat) (l m:List Nat),mk k (l++m)=mk k l++mk (k+l.length) m
 | k,[],m=>rfl
 | k,y::l,m=>by
  simp only[am₀,mk,GF (k+1) l m]
  grind
def tV(p:List UInt8)(a n:Nat):List Nat:=((p.drop a).take n).map UInt8.toNat
def emit(p:List UInt8)(k a:Nat)(o:Opt):List Nat:=if o.run=0 then hd o else o.h0::mk (k+1) ((hd o).drop 1++tV p a o.run)
def pt(p:List UInt8)(c:List Nat):Nat->Nat->Nat->List Nat->List Nat
 | 0,_,_,W=>W
 | f+1,a,st,W=>if st=0/\a=p.length then W else pt p c f (chs p c a st).nx (chs p c a st).md (W++emit p W.length a (chs p c a st))
def kW(p:List UInt8)(c:List Nat):List Nat:=pt p c (cst c 0 0+1) 0 0 []
section
variable {lo:Nat}{H:Heap}
theorem HN{v:Value}{l:List Nat}{k:Nat}(h:SlN H v l)(hk:k<l.length):∃b o xs,aJ (.iAddr 1) [v,.int .i64 (k:Nat)] H=some (.pointer (some ⟨b,o,none⟩))/\H.get b=some xs/\xs[o]?=some (aB (l.getD k 0)):=by
 obtain⟨b,o,sp,cap,xs,rfl,h2,h3,h4⟩:=h.els 0 byO;refine⟨b,o+k,xs,?_,h2,h3 k hk⟩;rw[lV byO byO];simp
open XYe
theorem Rh{n:Int}:Ev cp lo 211 [.int .i64 n] H (fun r H'=>H=H'/\r=.bool false):=by
 refine stG rfl rfl ?_;unfold Ll;simp only[kB,aD];refine aA ?_;refine aK ?_;refine⟨rfl,?_⟩;simp[aM]
theorem RA{a b:Nat}:Ev cp lo 199 [aB a,aB b] H (fun r H'=>H=H'/\r=.int .i64 (if a<b then -1 else if b<a then 1 else 0)):=by
 refine stG rfl rfl ?_;unfold Ld;simp only[kB,aD];refine aA ?_;refine aT ?_;refine aC Rh ?_;rintro r H1 ⟨rfl,rfl⟩;refine aA ?_;refine aT ?_;refine aC Rh ?_;rintro r H1 ⟨rfl,rfl⟩;refine aA ?_;refine an ?_;(try simp only[aD]);refine an ?_;(try simp only[aD]);by_cases h1:a<b
 ·have hd:decide ((a:Int)<(b:Nat))=true:=decide_eq_true byO
  rw[if_pos h1];refine bL ?_;refine aA ?_;refine aK ?_;exact⟨rfl,rfl⟩
 have hd:decide ((a:Int)<(b:Nat))=false:=decide_eq_false byO;rw[if_neg h1];refine an ?_;clear hd;(try simp only[aD]);by_cases h1:b<a
 ·have hd:decide ((a:Int)>(b:Nat))=true:=decide_eq_true byO
  have hd2:decide ((b:Int)<(a:Nat))=true:=decide_eq_true byO;rw[if_pos h1];refine bL ?_;refine aA ?_;refine aK ?_;exact⟨rfl,rfl⟩
 have hd:decide ((a:Int)>(b:Nat))=false:=decide_eq_false byO;have hd2:decide ((b:Int)<(a:Nat))=false:=decide_eq_false byO;rw[if_neg h1];refine an ?_;clear hd hd2;refine aA ?_;refine aK ?_;exact⟨rfl,rfl⟩
theorem mB:∀(k:Nat) (l m:List Nat),l.take k=m.take k->k<=l.length->k<=m.length->df l m=df (l.drop k) (m.drop k)
 | 0,l,m,_,_,_=>rfl
 | k+1,a::l,b::m,h,h1,h2=>by
  simp only[List.take_succ_cons,List.cons.injEq]at h;obtain⟨rfl,h⟩:=h;simp only[df,Nat.lt_irrefl,if_false,List.drop_succ_cons];exact mB k l m h (by simpa using h1) (by simpa using h2)
theorem drop_cons{l:List Nat}{k:Nat}(h:k<l.length):l.drop k=l.getD k 0::l.drop (k+1):=by
 rw[List.drop_eq_getElem_cons h];simp[au₀,h]
theorem m6{l:List Nat}{k:Nat}(h:k<l.length):l.take (k+1)=l.take k++[l.getD k 0]:=by
 rw[List.take_succ_eq_append_getElem h];simp[au₀,h]
theorem RB{v1 v2:Value}{l m:List Nat}(h1:SlN H v1 l)(h2:SlN H v2 m)(hl:l.length<=1000000):Ev cp lo 178 [v1,v2] H (fun r H'=>H=H'/\r=.int .i64 (df l m)):=by
 obtain⟨a1,c1,rfl⟩:=h1.len;obtain⟨a2,c2,rfl⟩:=h2.len;refine stG rfl rfl ?_;unfold LW;simp only[kB,aD];refine aA ?_;refine aS (fun k S H'=>(H=H'/\(False\/(l.take k=m.take k/\k<=m.length)))/\∃(z:Nat->Value),S=[.slice a1 l.length c1,.slice a2 m.length c2,z 2,z 3,z 4,z 5,z 6,.slice a1 l.length c1,.int .i64 (l.length:Nat),.int .i64 (k:Nat),z 10]) l.length ⟨⟨rfl,.inr ⟨rfl,Nat.zero_le _⟩⟩,aH rfl⟩ ?_ ?_ ?_
 ·rintro k S H' hk ⟨⟨rfl,_⟩,z,rfl⟩
  exact⟨decide ((k:Int)<(l.length:Nat)),by simp(disch:=try exact dO)only[evB,xtr,Nat.reduceAdd,Nat.reduceBEq,Int.reduceToNat, *],by simp⟩
 ·rintro k S H' hk ⟨⟨rfl,he⟩,z,rfl⟩
  obtain⟨b1,o1,x1,i1,g1,e1⟩:=HN h1 hk;obtain⟨q,hq⟩:∃q,False\/l.getD k 0=q:=⟨_,.inr rfl⟩;rw[hq.resolve_left id]at e1;refine aA ?_;by_cases hkm:k<m.length
  ·have hd:decide ((k:Int)>=(m.length:Nat))=false:=decide_eq_false byO
   have hd2:decide ((m.length:Int)<=(k:Nat))=false:=decide_eq_false byO;obtain⟨b2,o2,x2,i2,g2,e2⟩:=HN h2 hkm;obtain⟨q2,hq2⟩:∃q2,False\/m.getD k 0=q2:=⟨_,.inr rfl⟩;rw[hq2.resolve_left id]at e2;have hcmp:False\/df l m=if q<q2 then -1 else if q2<q then 1 else df (l.drop (k+1)) (m.drop (k+1)):=by
    right;obtain⟨f1,f2⟩:=he.resolve_left id;rw[mB k l m f1 byO f2,drop_cons hk,drop_cons hkm,hq.resolve_left id,hq2.resolve_left id];rfl
   refine an ?_;clear hd hd2;refine aA ?_;refine aT ?_;refine aC RA ?_;rintro r H1 ⟨rfl,rfl⟩;by_cases hlt:q<q2
   ·rw[if_pos hlt]
    rw[if_pos hlt]at hcmp;refine aA ?_;refine bL ?_;refine aA ?_;refine aK ?_;exact⟨rfl,by rw[hcmp.resolve_left id];rfl⟩
   rw[if_neg hlt];rw[if_neg hlt]at hcmp;by_cases hgt:q2<q
   ·rw[if_pos hgt]
    rw[if_pos hgt]at hcmp;refine aA ?_;refine bL ?_;refine aA ?_;refine aK ?_;exact⟨rfl,by rw[hcmp.resolve_left id];rfl⟩
   rw[if_neg hgt];refine aA ?_;refine an ?_;refine aA ?_;refine⟨⟨trivial,.inr ⟨?_,byO⟩⟩,aH ncM⟩;rw[m6 hk,m6 hkm,(he.resolve_left id).1,hq.resolve_left id,hq2.resolve_left id,show q=q2 by omega]
  ·have hd:decide ((k:Int)>=(m.length:Nat))=true:=decide_eq_true byO
   have hd2:decide ((m.length:Int)<=(k:Nat))=true:=decide_eq_true byO;have hcmp:False\/df l m=1:=by
    right;obtain⟨f1,f2⟩:=he.resolve_left id;rw[mB k l m f1 byO f2,drop_cons hk,show m.drop k=[] from List.drop_eq_nil_of_le byO];rfl
   refine bL ?_;refine aA ?_;refine aK ?_;exact⟨rfl,by rw[hcmp.resolve_left id];rfl⟩
 ·rintro S H' ⟨⟨rfl,he⟩,z,rfl⟩
  obtain⟨f1,f2⟩:=he.resolve_left id;have hcmp:False\/df l m=df [] (m.drop l.length):=by
   right;rw[mB l.length l m f1 (Nat.le_refl _) f2,List.drop_length]
  clear f1 he;by_cases hlt:l.length<m.length
  ·have hd:decide ((l.length:Int)<(m.length:Nat))=true:=decide_eq_true byO
   rw[drop_cons hlt]at hcmp;(try simp only[aD]);refine bL ?_;refine aA ?_;refine aK ?_;exact⟨rfl,by rw[hcmp.resolve_left id];rfl⟩
  ·have hd:decide ((l.length:Int)<(m.length:Nat))=false:=decide_eq_false byO
   rw[List.drop_eq_nil_of_le byO]at hcmp;(try simp only[aD]);refine an ?_
   ·refine aA ?_
    refine aK ?_;exact⟨rfl,by rw[hcmp.resolve_left id];rfl⟩
variable {sb cb:Nat}{v:Value}{p:List UInt8}{cs:List Nat}
theorem Ly{b:Nat}{o:Opt}(h:H.get b=some (aQ o))(hz:o.sz<=3):SlN H (.slice (some ⟨b,0,none⟩) o.sz 3) (hd o):=by
 have hl:=rq hz;refine .inr ⟨b,0,none,3,_,by rw[hl],h,?_,by rw[hl,gm];omega,.inl rfl,byO⟩;rw[hl];unfold hd aQ;have:o.sz=0\/o.sz=1\/o.sz=2\/o.sz=3:=byO;rcases this with e|e|e|e<;>rw[e]<;>rfl
theorem Qz{a st:Nat}(hs:SrH H sb cb v p cs)(ha:a<=p.length)(hst:st<19)(hlo:lo<=H.length):Ev cp lo 129 [ptr sb,aB a,aB st] H (fun r H'=>Ext H H'/\r=AS (chs p cs a st)):=by
 have hi:=hs.hi;have hsl:=Heap.get_lt hs.g;refine stG rfl rfl ?_;unfold Ks;simp only[kB,aD];refine aA ?_;have hxb:Ext H (H++[some (aQ cC),some (aQ cC)]):=Ext.app _ _;have hg0:(H++[some (aQ cC),some (aQ cC)]).get H.length=some (aQ cC):=aF;have hg1:(H++[some (aQ cC),some (aQ cC)]).get (H.length+1)=some (aQ cC):=by rw[bC];rfl
 have hlc:(H++[some (aQ cC),some (aQ cC)]).length<=H.length+2/\H.length+2<=(H++[some (aQ cC),some (aQ cC)]).length:=by simp
 change wpS cp lo _ _ _ (H++[some (aQ cC),some (aQ cC)]);generalize H++[some (aQ cC),some (aQ cC)]=H0 at hxb hg0 hg1 hlc;have hs0:=hs.ext hxb;refine aT ?_;refine aC (Ro (lo:=lo) hs0 ha hst byO) ?_;rintro r H1 ⟨hx1,b,hb,ho⟩;have hok:∀o ∈ dQ p cs a st,o.ok p.length a:=iY ha;have hKl:=yV p cs a st;unfold chs;generalize dQ p cs a st=K at ho hok hKl ⊢;obtain⟨aw,rfl⟩:=ho.len byO gm;have hx01:=hxb.trans hx1;have hz:=hx1.get hg0;have hbst:=hx1.get hg1;have hl1:=hx1.1;have hidx:a*19+st<cs.length:=by have:=hs.len;omega
 have hat:=nC hidx;generalize hcost:cst cs a st=cost;rw[show cs.getD (a*19+st) 0=cost from hcost]at hat;clear hg0 hg1 hcost;refine aA ?_;refine aS (fun k S H'=>((Keep (H.length+1) H1 H'/\Ext H H')/\H'.get (H.length+1)=some (aQ (nw cs cost (K.take k))))/\∃(z:Nat->Value),S=[ptr sb,aB a,aB st,ptr H.length,ptr (H.length+1),z 5,.slice aw K.length K.length,.int .i64 (K.length:Nat),.int .i64 (k:Nat),z 9,z 10,z 11,z 12,z 13]) K.length ⟨⟨⟨Ext.keep (Ext.refl _),hx01⟩,hbst⟩,aH ncM⟩ ?_ ?_ ?_
 ·rintro k S H' hk ⟨h1,z,rfl⟩
  exact⟨decide ((k:Int)<(K.length:Nat)),by simp(disch:=try exact dO)only[evB,xtr,Nat.reduceAdd,Nat.reduceBEq,Int.reduceToNat, *],by simp⟩
 ·rintro k S H2 hk ⟨⟨⟨hk2,hx2⟩,hbest⟩,z,rfl⟩
  clear hbst;have ho2:=ho.keep hk2 byO;obtain⟨p4,o4,X4,i4,g4,l4,e4⟩:=ho2.at byO gm hk;have hoo:=hok _ (List.getElem_mem hk);have hr:nw cs cost (K.take (k+1))=fo cs cost (nw cs cost (K.take k)) K[k]:=by
   rw[List.take_succ_eq_append_getElem hk,Cg]
  have hbsz:(nw cs cost (K.take k)).sz<=3:=by
   rcases rJ (c:=cs) (cost:=cost) (L:=K.take k)with ⟨h,_⟩|⟨h,_⟩
   ·rw[h];exact Nat.zero_le _
   ·exact(hok _ (List.mem_of_mem_take h)).sz.2
  rw[hr];clear hr ho2;generalize nw cs cost (K.take k)=bo at hbest hbsz ⊢;generalize K[k]=o at e4 hoo ⊢;have hl2:=hk2.len;refine aA ?_;change wpS cp lo _ _ _ (H2++[some (aQ o)]);have hxc:Ext H2 (H2++[some (aQ o)]):=Ext.app _ _;have hgo:(H2++[some (aQ o)]).get H2.length=some (aQ o):=aF;generalize H2++[some (aQ o)]=H3 at hxc hgo;clear i4 g4 l4 e4;have hs3:=hs.ext (hx2.trans hxc);have hgs:=hs3.g;have hgc:=hs3.c;have hul:(uN cs).length<=cs.length/\cs.length<=(uN cs).length:=by simp
  have hlen:cs.length<=(p.length+1)*19/\(p.length+1)*19<=cs.length:=by have:=hs.len;omega
  generalize hU:uN cs=U at hgc hat hul;clear hU;have o1:=hoo.sz;have o2:=hoo.run;have o3:=hoo.nx;have o4:=hoo.md;clear hoo;have hb3:=hxc.get hbest;refine aT ?_;refine bS (KS (o:=o) hs3 byO) ?_;rintro r H4 ⟨hx4,rfl⟩;have hbt:fo cs cost bo o=if bP cs o=cost/\(bo.sz=0\/df (hd o) (hd bo)<0) then o else bo:=rfl
  rw[hbt];clear hbt hgs hgc hs3;generalize bP cs o=t;have hx24:=hxc.trans hx4;have hgo4:=hx4.get hgo;have hb4:=hx4.get hb3;have hl4:=hx24.1;have hlb4:=Heap.get_lt hb4;clear hgo hb3;have hkk:Keep (H.length+1) H1 H4:=az hk2 (.inl rfl) (Ext.keep hx24);have hxx:=hx2.trans hx24;(try simp only[aD]);by_cases ht:t=cost
  ·subst ht
   simp only[true_and];refine aP ?_ ?_<;>intro h
   ·simp at h
   clear h;have ez:(aQ bo)[3]?=some (aB bo.sz):=rfl;have eo:(aQ o)[3]?=some (aB o.sz):=rfl;(try simp only[aD]);by_cases hz0:bo.sz=0
   ·rw[if_pos (.inl hz0)]
    have hd:decide ((bo.sz:Int)=0)=true:=decide_eq_true byO;replace hz0:bo.sz<=0:=byO;refine aU (t:=false) aN dP e9 (fun h=>by cases h) (fun _=>?_);(try simp only[aD]);refine bL ?_;refine aA ?_;exact⟨⟨⟨az hkk (.inl rfl) keepSet,keepSet.ext hxx byO⟩,aG byO⟩,aH ncM⟩
   ·have hd:decide ((bo.sz:Int)=0)=false:=decide_eq_false byO
    have hor:(bo.sz=0\/df (Go.Proofs.YtmnlgdpdgjbfgaaGreat.hd o) (Go.Proofs.YtmnlgdpdgjbfgaaGreat.hd bo)<0)↔df (Go.Proofs.YtmnlgdpdgjbfgaaGreat.hd o) (Go.Proofs.YtmnlgdpdgjbfgaaGreat.hd bo)<0:=by simp[hz0]
    simp only[hor];clear hor;replace hz0:1<=bo.sz:=byO;refine aU (t:=true) aN dP e9 (fun _=>⟨_,aN,?_⟩) (fun h=>by cases h);refine eF (RB (lo:=lo) (Ly hgo4 o1.2) (Ly hb4 hbsz) (by rw[rq o1.2];omega)) ?_;rintro r H5 ⟨rfl,rfl⟩;generalize df (Go.Proofs.YtmnlgdpdgjbfgaaGreat.hd o) (Go.Proofs.YtmnlgdpdgjbfgaaGreat.hd bo)=w;(try simp only[aD]);by_cases hw:w<0
    ·have hdw:decide (w<0)=true:=decide_eq_true hw
     rw[if_pos hw];clear hw;refine bL ?_;clear hdw;refine aA ?_;exact⟨⟨⟨az hkk (.inl rfl) keepSet,keepSet.ext hxx byO⟩,aG byO⟩,aH ncM⟩
    ·have hdw:decide (w<0)=false:=decide_eq_false hw
     rw[if_neg hw];clear hw;refine aP ?_ ?_<;>intro h
     ·simp at h
     ·clear h hdw
      refine aA ?_;exact⟨⟨⟨hkk,hxx⟩,hb4⟩,aH ncM⟩
  ·have hd:decide ((t:Int)=(cost:Nat))=false:=decide_eq_false byO
   rw[if_neg (fun h=>ht h.1)];refine aP ?_ ?_<;>intro h
   ·clear h hd
    refine aA ?_;exact⟨⟨⟨hkk,hxx⟩,hb4⟩,aH ncM⟩
   ·exfalso
    have h2:(t:Int)=(cost:Nat):=by simpa using h
    exact ht byO
 ·rintro S H2 ⟨⟨⟨hk2,hx2⟩,hbest⟩,z,rfl⟩
  rw[List.take_length]at hbest;generalize nw cs cost K=o at hbest ⊢;have hz2:=hk2.get hz byO;have hlz:=Heap.get_lt hz2;refine aA ?_;refine aK ?_;exact⟨keepSet.ext hx2 (Nat.le_refl _),rfl⟩
end
section
variable {cp:FuncId->Option CF}{lo:Nat}
def F6(J:Nat->Nat->List Value->Heap->Prop)(Q:bI):bI:=fun ex S' H'=>match ex with | .exit j=>if aa<=j then ∃m,J m (j-aa) S' H' else Q (.exit j) S' H'|ex=>Q ex S' H'
def F5(J:Nat->Nat->List Value->Heap->Prop)(m:Nat)(Q:bI):bI:=fun ex S' H'=>match ex with | .exit j=>if aa<=j then ∃m',m'<m/\J m' (j-aa) S' H' else Q (.exit j) S' H'|ex=>Q ex S' H'
theorem ED{b alts:Stm}{Q:bI}(J:Nat->Nat->List Value->Heap->Prop)(h1:wpS cp lo b (F6 J Q) S H)(h2:∀m l S H,J m l S H->wpS cp lo alts (F5 J m Q) (.int .i64 ((l:Nat):Int)::S) H):wpS cp lo (.scope b alts) Q S H:=⟨J,h1,h2⟩
theorem zL{l:Nat}{s r:Stm}{Q:bI}(h:wpS cp lo s Q S H):wpS cp lo (.alt l s r) Q (.int .i64 ((l:Nat):Int)::S) H:=⟨fun _=>h,fun h=>absurd rfl h⟩
theorem vF{l k:Nat}{s r:Stm}{Q:bI}(hk:k≠l)(h:wpS cp lo r Q (.int .i64 ((k:Nat):Int)::S) H):wpS cp lo (.alt l s r) Q (.int .i64 ((k:Nat):Int)::S) H:=⟨fun h=>absurd (Int.ofNat.inj h) hk,fun _=>h⟩
def OutH(H:Heap)(b cap:Nat)(W:List Nat):Prop:=∃X,H.get b=some X/\X.length=cap/\X.take W.length=uN W/\W.length<=cap
abbrev jQ(b cap:Nat)(W:List Nat):Value:=.slice (some ⟨b,0,none⟩) W.length cap
theorem OutH.keep{H H':Heap}{b b' cap:Nat}{W:List Nat}(h:OutH H b cap W)(e:Keep b' H H')(hne:b≠b'):OutH H' b cap W:=by
 obtain⟨X,h1,h2⟩:=h;exact⟨X,e.get h1 hne,h2⟩
theorem OutH.mono{H H':Heap}{b cap:Nat}{W:List Nat}(h:OutH H b cap W)(e:Ext H H'):OutH H' b cap W:=by
 obtain⟨X,h1,h2⟩:=h;exact⟨X,e.get h1,h2⟩
theorem OutH.sl{H:Heap}{b cap:Nat}{W:List Nat}(h:OutH H b cap W):SlN H (jQ b cap W) W:=by
 obtain⟨X,h1,h2,h3,h4⟩:=h;exact .inr ⟨b,0,none,cap,X,rfl,h1,by rw[List.drop_zero];exact h3,byO,.inl rfl,h4⟩
theorem Rm:∀l:List Nat,oneCells (uN l)=true
 | []=>rfl
 | x::l=>by simp[uN,oneCells,Value.oneCell']
theorem wI{z:List Value}{b cap t o m n:Nat}{sp:Option Nat}{W L:List Nat}{c':List Value}{R:Value->Heap->Prop}(ho:OutH H b cap W)(hlo:lo<=b)(ht:H.get t=some c')(hlen:o+n<=c'.length)(hc:(c'.drop o).take n=uN L)(hn:L.length=n)(hcap:W.length+n<=cap)
  (k:∀H',OutH H' b cap (W++L)->Keep b H H'->H'.length=H.length->R (jQ b cap (W++L)) H'):wpH cp lo (.app 1 z) [jQ b cap W,.slice (some ⟨t,o,sp⟩) n m] H R:=by
 obtain⟨X,h1,h2,h3,h4⟩:=ho;have e1:H.cells t o (n*1)=some (uN L):=by rw[Nat.mul_one,cells_get ht hlen,hc]
 have hL:(uN L).length=n:=by simp[hn]
 simp only[wpH,cK,hsem,e1,ao₀,Rm,if_true,aZ,jQ];rw[if_pos hcap];simp only[true_or,if_true];have hput:H.put lo b (0+W.length*1) (uN L)=some (H.set b (some (putCells X W.length (uN L)))):=by
  unfold Heap.put;rw[h1];simp only;rw[if_pos byO];simp
 rw[hput];simp only[Option.map_some];have hbl:=Heap.get_lt h1;have:=k (H.set b (some (putCells X W.length (uN L)))) ⟨_,aG hbl,?_,?_,by rw[as₀];omega⟩ keepSet (by simp)
 ·simpa[jQ,hn]using this
 ·unfold putCells;simp[hL];omega
 ·unfold putCells
  rw[h3,<-ba₀,show uN W++uN L=uN (W++L) by simp[uN],List.take_append_of_le_length (by simp[uN]),List.take_of_length_le (by simp[uN])]
end
section
open XYe
theorem MB{lo:Nat}{k:Nat}(hk:k<=100000):Ev cp lo 130 [aB k] H (fun r H'=>H=H'/\r=aB (msk k)):=by
 have em:(149*((k:Int)+1)).tmod 255+1=((149*(k+1)%255+1:Nat):Int):=by rw[Int.tmod_eq_emod_of_nonneg byO];omega
 have hlt:149*(k+1)%255+1<=255:=byO;unfold msk;generalize 149*(k+1)%255+1=w at em hlt;have eq:(149*((k:Int)+1)).tmod 255=(w:Nat)-1:=byO;refine stG rfl rfl ?_;unfold Kt;simp only[kB,aD];refine aA ?_;refine aK ?_;refine⟨rfl,?_⟩;show Value.int .i64 _=Value.int .i64 _;congr 1;omega
end
end Go.Proofs.YtmnlgdpdgjbfgaaGreat
