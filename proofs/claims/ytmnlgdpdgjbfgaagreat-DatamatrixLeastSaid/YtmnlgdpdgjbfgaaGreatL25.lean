/- Lemmas. -/
import Derived.Test.YtmnlgdpdgjbfgaaGreatL23
import Derived.Test.YtmnlgdpdgjbfgaaGreatL24
set_option linter.all false
namespace Go.Proofs.YtmnlgdpdgjbfgaaGreat
open Go.Abs
variable{i:Nat}
set_option maxRecDepth 20000
section
variable {lo:Nat}{H:Heap}{sb cb:Nat}{v:Value}{p:List UInt8}{cs:List Nat}
theorem nX{l:List UInt8}{j k:Nat}:(l.drop j).getD k 0=l.getD (j+k) 0:=by
 simp[au₀,List.getElem?_drop]
theorem I7{H:Heap}{v:Value}{l:List UInt8}{n:Nat}(h:SlU H v l)(hn:n<=l.length):∃v',(∀G,aH (.sl 1 true false false) [v,.int .i64 (n:Nat)] G=some v')/\SlU H v' (l.drop n):=by
 rcases h with ⟨rfl,rfl⟩|⟨b,o,sp,cap,xs,rfl,h2,h3,h4,h5,h6⟩
 ·have:n=0:=by simpa using hn
  subst this;exact⟨.slice none 0 0,fun _=>rfl,.inl ⟨rfl,rfl⟩⟩
 ·have hd:(xs.drop (o+n)).take (l.length-n)=(l.drop n).map BN:=by
   rw[List.map_drop,<-h3,<-List.drop_drop,List.drop_take]
  rcases h5 with rfl|rfl
  ·refine⟨.slice (some ⟨b,if cap=n then o else o+n,none⟩) (l.length-n) (cap-n),?_,.inr ⟨b,_,none,cap-n,xs,by rw[List.length_drop],h2,?_,?_,.inl rfl,by rw[List.length_drop];omega⟩⟩
   ·intro G;rw[yb,C8 byO byO]
    simp
   ·rw[List.length_drop]
    split
    ·have:l.length-n=0:=byO
     rw[this];have:l.drop n=[]:=List.drop_eq_nil_of_le byO;rw[this];simp
    ·exact hd
   ·rw[List.length_drop];split<;>omega
  ·refine⟨.slice (some ⟨b,o+n,some 1⟩) (l.length-n) (cap-n),?_,.inr ⟨b,_,some 1,cap-n,xs,by rw[List.length_drop],h2,by rw[List.length_drop];exact hd,by rw[List.length_drop];omega,.inr rfl,by rw[List.length_drop];omega⟩⟩
   intro G;rw[ya,C8 byO byO];simp
theorem rE(a:Nat):(fH a).length=4:=rfl
theorem tZ(p:List UInt8)(a:Nat):(jh p a).length<=1:=by unfold jh;split<;>simp
open XYe
theorem Qq{a:Nat}(hs:SrH H sb cb v p cs)(ha:a<=p.length)(hlo:lo<=H.length):Ev cp lo 194 [ptr sb,aA a] H (fun r H'=>Ext H H'/\∃b,H.length<=b/\OwnG lo 7 H' r b (cat aM (oP p cs a))):=by
 have hi:=hs.hi;have hsl:=Heap.get_lt hs.g;have hgs:=hs.g;refine stG rfl rfl ?_;unfold J7;simp only[kB,aC];refine aE ?_;change wpS cp lo _ _ _ (H++[some (cat aM (fH a))]);have hxb:Ext H (H++[some (cat aM (fH a))]):=Ext.app _ _;have hg0:(H++[some (cat aM (fH a))]).get H.length=some (cat aM (fH a)):=aG;have hlc:(H++[some (cat aM (fH a))]).length<=H.length+1/\H.length+1<=(H++[some (cat aM (fH a))]).length:=by simp
 generalize H++[some (cat aM (fH a))]=H0 at hxb hg0 hlc;have ho0:OwnG lo 7 H0 (.slice (some ⟨H.length,0,none⟩) 4 4) H.length (cat aM (fH a)):=.inr ⟨hlo,4,byO,rfl,rfl,hg0⟩;have hs0:=hs.ext hxb;have hgs0:=hs0.g;obtain⟨v',ev0,hv0⟩:=I7 hs.pl ha;obtain⟨av,cv,ew⟩:=hs.pl.len;rw[ew]at ev0 hgs0;have ev':=ev0 H0;have hv':=hv0.mono hxb;obtain⟨ad,c,ev⟩:=hv'.len;rw[ev]at ev';have hdl:(p.drop a).length=p.length-a:=List.length_drop;rw[hdl]at ev ev';rw[ev]at hv' hv0;clear hg0 hgs ev hs0 ev0;refine aE ?_;unfold oP;by_cases hap:a<p.length
 ·have hd:decide (((p.length-a:Nat):Int)=0)=false:=decide_eq_false byO
  rw[if_pos hap];refine aN ?_ ?_<;>intro h
  ·simp at h
  clear h hd hgs0 ev';obtain⟨bb,oo,xs,hia,hgx,hxx⟩:=fX hv' (k:=0) byO;rw[nX,Nat.add_zero]at hxx;have hby:=(p.getD a 0).toNat_lt;have hP:jh p a=if a+2<=p.length/\j6 (p.getD a 0).toNat=true/\j6 (p.getD (a+1) 0).toNat=true then[⟨130+(10*((p.getD a 0).toNat-48)+(p.getD (a+1) 0).toNat-48),0,0,1,0,a+2,0⟩] else[]:=rfl
  replace hP:False\/_:=.inr hP;unfold by';replace hxx:xs[oo]?=some (.int .u8 ((p.getD a 0).toNat:Nat)):=hxx;obtain⟨q,hqe⟩:∃q,False\/(p.getD a 0).toNat=q:=⟨_,.inr rfl⟩;rw[hqe.resolve_left id]at hxx hby hP ⊢;have hia:aH (LOp.iAddr 1) [Value.slice ad (p.length-a) c,Value.int .i64 0] H0=_:=hia;refine aE ?_;have hbO:dv q a=if q<128 then⟨q+1,0,0,1,0,a+1,0⟩ else⟨235,q-127,0,2,0,a+1,0⟩:=rfl
  have hM:∀{w H'},AppG lo 7 H0 H.length (cat aM (fH a++[dv q a])) w H'->Ext H H'/\∃b,(H.length<=b/\b<H'.length)/\OwnG lo 7 H' w b (cat aM (fH a++[dv q a])):=by
   intro w H' h;have hx:=h.ext hxb (Nat.le_refl _);obtain⟨b4,h1,h2,h3,h4⟩:=h;exact⟨hx,b4,byO,h3⟩
  refine bz (fun S' H'=>∃w,AppG lo 7 H0 H.length (cat aM (fH a++[dv q a])) w H'/\∃(z:Nat->Value),S'=[ptr sb,aA a,z 2,w,.slice ad (p.length-a) c,.int .i64 (q:Nat),z 6,z 7,z 8,z 9,z 10,z 11,z 12,z 13,z 14,z 15,z 16,z 17,z 18,z 19,z 20,z 21,z 22,z 23,z 24]) ?_ ?_
  ·clear hM
   generalize dv q a=ob at hbO;by_cases h128:q<128
   ·have hd:decide ((q:Int)<128)=true:=decide_eq_true byO
    rw[if_pos h128]at hbO;subst hbO;refine aN ?_ ?_<;>intro h
    ·clear h hd
     refine aE ?_;change wpS cp lo _ _ _ (H0++[some (aM ⟨q+1,0,0,1,0,a+1,0⟩)]);refine bR ?_;refine mr (o:=⟨q+1,0,0,1,0,a+1,0⟩) ho0 byO (by rw[rE];omega) ?_;intro w3 H3 hap3;refine aE ?_;exact⟨_,hap3,aJ ncM⟩
    ·simp at h
   ·have hd:decide ((q:Int)<128)=false:=decide_eq_false byO
    have h127:(q:Int)-127=((q-127:Nat):Int):=byO;rw[if_neg h128]at hbO;subst hbO;refine aN ?_ ?_<;>intro h
    ·simp at h
    ·clear h hd
     refine aE ?_;change wpS cp lo _ _ _ (H0++[some (aM ⟨235,q-127,0,2,0,a+1,0⟩)]);refine bR ?_;refine mr (o:=⟨235,q-127,0,2,0,a+1,0⟩) ho0 byO (by rw[rE];omega) ?_;intro w3 H3 hap3;refine aE ?_;exact⟨_,hap3,aJ ncM⟩
  ·rintro S' H1 ⟨w,hap1,z,rfl⟩
   obtain⟨hx1,b1,⟨hb1,hb1l⟩,ho1⟩:=hM hap1;clear hM hbO hap1 hia hgx hxx;have hl1:=hx1.1;obtain⟨bb,oo,xs,hia,hgx,hxx⟩:=fX (hv0.mono hx1) (k:=0) byO;rw[nX,Nat.add_zero]at hxx;replace hxx:xs[oo]?=some (.int .u8 ((p.getD a 0).toNat:Nat)):=hxx;rw[hqe.resolve_left id]at hxx;replace hia:aH (LOp.iAddr 1) [Value.slice ad (p.length-a) c,Value.int .i64 0] H1=_:=hia;have hL1:(fH a++[dv q a]).length=5:=rfl;replace hL1:(fH a++[dv q a]).length<=5:=byO;obtain⟨L1,hLe⟩:∃L1,False\/fH a++[dv q a]=L1:=⟨_,.inr rfl⟩;rw[hLe.resolve_left id]at ho1 hL1;rw[jt];refine bz (fun S' H'=>Ext H H'/\∃w b,(H.length<=b/\OwnG lo 7 H' w b (cat aM (L1++jh p a)))/\∃(z:Nat->Value),S'=[ptr sb,aA a,z 2,w,z 4,z 5,z 6,z 7,z 8,z 9,z 10,z 11,z 12,z 13,z 14,z 15,z 16,z 17,z 18,z 19,z 20,z 21,z 22,z 23,z 24]) ?_ ?_
   ·by_cases h2:a+2<=p.length
    ·have hd2:decide (((p.length-a:Nat):Int)>=2)=true:=decide_eq_true byO
     have hd2':decide ((2:Int)<=((p.length-a:Nat):Nat))=true:=decide_eq_true byO;(try simp only[aC]);refine aW (t:=true) dP gW iw (fun _=>⟨_,dP,?_⟩) (fun h=>by cases h);refine aB (O4 (lo:=lo) (k:=q) hby byO) ?_;rintro r H2 ⟨rfl,hx2⟩;have hx12:=hx1.trans hx2;have ho2:=ho1.mono hx2;have hl2:=hx2.1;clear hia hgx hxx;obtain⟨bb,oo,xs,hia,hgx,hxx⟩:=fX (hv0.mono hx12) (k:=1) byO;rw[nX]at hxx;have hby2:=(p.getD (a+1) 0).toNat_lt;replace hxx:xs[oo]?=some (.int .u8 ((p.getD (a+1) 0).toNat:Nat)):=hxx;replace hia:aH (LOp.iAddr 1) [Value.slice ad (p.length-a) c,Value.int .i64 1] H2=_:=hia;obtain⟨q2,hq2e⟩:∃q2,False\/(p.getD (a+1) 0).toNat=q2:=⟨_,.inr rfl⟩;rw[hq2e.resolve_left id]at hxx hby2 hP;by_cases hdq:j6 q=true
     ·rw[hdq]
      (try simp only[aC]);refine aW (t:=true) dP gW iw (fun _=>⟨_,dP,?_⟩) (fun h=>by cases h);refine aB (O4 (lo:=lo) (k:=q2) hby2 byO) ?_;rintro r H3 ⟨rfl,hx3⟩;have hx13:=hx12.trans hx3;have ho3:=ho2.mono hx3;have hl3:=hx3.1;have hgx3:=hx3.get hgx;clear hia hgx hxx;obtain⟨bb,oo,xs,hia,hgx,hxx⟩:=fX (hv0.mono hx13) (k:=1) byO;rw[nX]at hxx;replace hxx:xs[oo]?=some (.int .u8 ((p.getD (a+1) 0).toNat:Nat)):=hxx;rw[hq2e.resolve_left id]at hxx;replace hia:aH (LOp.iAddr 1) [Value.slice ad (p.length-a) c,Value.int .i64 1] H3=_:=hia;by_cases hdq2:j6 q2=true
      ·have hr1:=cz.1 hdq
       have hr2:=cz.1 hdq2;replace hP:=hP.resolve_left id;rw[if_pos ⟨h2,hdq,hdq2⟩]at hP;rw[hP,hdq2];clear hP;have e6:10*((q:Int)-48)+(q2:Int)-48=((10*(q-48)+q2-48:Nat):Int):=byO;have hm:10*(q-48)+q2-48<=99:=byO;generalize 10*(q-48)+q2-48=m at e6 hm;clear hdq hdq2;(try simp only[aC]);refine aN ?_ ?_<;>intro h
       ·clear h
        refine aE ?_;change wpS cp lo _ _ _ (H3++[some (aM ⟨130+m,0,0,1,0,a+2,0⟩)]);refine bR ?_;refine mr (o:=⟨130+m,0,0,1,0,a+2,0⟩) ho3 byO byO ?_;intro w4 H4 hap4;have hx4:=hap4.ext hx13 hb1;obtain⟨b4,k1,k2,k3,k4⟩:=hap4;refine aE ?_;exact⟨hx4,_,b4,⟨byO,k3⟩,aJ ncM⟩
       ·cases h
      ·replace hP:=hP.resolve_left id
       rw[if_neg (fun h=>hdq2 h.2.2)]at hP;rw[hP,Bool.eq_false_iff.2 hdq2,List.append_nil];clear hP hdq hdq2;(try simp only[aC]);refine aN ?_ ?_<;>intro h
       ·cases h
       ·(try simp only[aC])
        exact⟨hx13,_,b1,⟨hb1,ho3⟩,aJ ncM⟩
     ·replace hP:=hP.resolve_left id
      rw[if_neg (fun h=>hdq h.2.1)]at hP;rw[hP,Bool.eq_false_iff.2 hdq,List.append_nil];clear hP hdq;(try simp only[aC]);refine aW (t:=false) dP gW iw (fun h=>by cases h) (fun _=>?_);(try simp only[aC]);refine aN ?_ ?_<;>intro h
      ·cases h
      ·(try simp only[aC])
       exact⟨hx12,_,b1,⟨hb1,ho2⟩,aJ ncM⟩
    ·have hd2:decide (((p.length-a:Nat):Int)>=2)=false:=decide_eq_false byO
     have hd2':decide ((2:Int)<=((p.length-a:Nat):Nat))=false:=decide_eq_false byO;replace hP:=hP.resolve_left id;rw[if_neg (fun h=>h2 h.1)]at hP;rw[hP,List.append_nil];clear hP;(try simp only[aC]);refine aW (t:=false) dP gW iw (fun h=>by cases h) (fun _=>?_);(try simp only[aC]);refine aW (t:=false) dP gW iw (fun h=>by cases h) (fun _=>?_);(try simp only[aC]);refine aN ?_ ?_<;>intro h
     ·cases h
     ·(try simp only[aC])
      exact⟨hx1,_,b1,⟨hb1,ho1⟩,aJ ncM⟩
   ·rintro S' H2 ⟨hx2,w,b,⟨hb,ho⟩,z,rfl⟩
    have hpl:=tZ p a;have hl2:=hx2.1;rw[<-ba₀,<-ba₀,hLe.resolve_left id];generalize jh p a=PL at ho hpl;(try simp only[aC]);refine bR ?_;refine aB (Qs (lo:=lo) (hs.ext hx2) hap byO) ?_;rintro r H3 ⟨hx3,rfl⟩;have ho3:=ho.mono hx3;have hl3:=hx3.1;generalize uG p cs a=o;refine aE ?_;change wpS cp lo _ _ _ (H3++[some (aM o)]);refine bR ?_;refine mr (o:=o) ho3 byO (by simp;omega) ?_;intro w4 H4 hap4;have hx4:=hap4.ext (hx2.trans hx3) hb;obtain⟨b4,k1,k2,k3,k4⟩:=hap4;refine aE ?_;refine dB ?_;exact⟨hx4,b4,byO,k3⟩
 ·have hd:decide (((p.length-a:Nat):Int)=0)=true:=decide_eq_true byO
  rw[if_neg hap,List.append_nil];refine aN ?_ ?_<;>intro h
  ·refine aE ?_
   refine dB ?_;exact⟨hxb,_,Nat.le_refl _,ho0⟩
  ·simp at h
end
def jI(i:Nat)(s:List Nat×Bool)(o:Opt):List Nat×Bool:=if bD s.1 o<s.1.getD i 0 then(s.1.set i (bD s.1 o),true) else s
def dr(i:Nat)(L:List Opt)(s:List Nat×Bool):List Nat×Bool:=L.foldl (jI i) s
def round(L:Nat->List Opt)(a:Nat):Nat->List Nat×Bool->List Nat×Bool
 | 0,s=>s
 | k+1,s=>dr (a*19+k) (L k) (round L a k s)
inductive Stl (L:Nat->List Opt) (a:Nat):List Nat->List Nat->Prop
 | done {c c':List Nat}:round L a 19 (c,false)=(c',false)->Stl L a c c'
 | more {c d c':List Nat}:round L a 19 (c,false)=(d,true)->Stl L a d c'->Stl L a c c'
theorem dD{l:List Nat}{i j x:Nat}(h:i<l.length):(l.set i x).getD j 0=if j=i then x else l.getD j 0:=by
 simp only[au₀,List.getElem?_set];by_cases e:i=j
 ·subst e;simp[h]
 ·rw[if_neg e,if_neg (fun e'=>e e'.symm)]
theorem uX{l:List Nat}(h:l.length<=i):l.getD i 0=0:=by simp[au₀,h]
theorem vQ:∀{l:List Nat} {i x:Nat},i<l.length->(l.set i x).sum+l.getD i 0=l.sum+x
 | y::l,0,x,_=>by simp only[List.set_cons_zero,List.sum_cons,List.getD_cons_zero];omega
 | y::l,i+1,x,h=>by
  have:=vQ (l:=l) (i:=i) (x:=x) (by simpa using h);simp only[List.set_cons_succ,List.sum_cons,List.getD_cons_succ];omega
structure Stp (i:Nat)(s t:List Nat×Bool):Prop where
 len:t.1.length=s.1.length
 le:∀j,t.1.getD j 0<=s.1.getD j 0
 ne:∀j,j≠i->t.1.getD j 0=s.1.getD j 0
 sum:t.1.sum<=s.1.sum
 fl:t.2=true->s.2=true\/t.1.sum<s.1.sum
 fl2:s.2=true->t.2=true
theorem tj(i:Nat)(s:List Nat×Bool)(o:Opt):Stp i s (jI i s o):=by
 unfold jI;split
 ·rename_i h
  have hi:i<s.1.length:=by
   refine Decidable.byContradiction fun hn=>?_;rw[uX byO]at h;omega
  have hs:=vQ (x:=bD s.1 o) hi;refine⟨by simp,fun j=>?_,fun j hj=>?_,by simp only;omega,fun _=>.inr (by simp only;omega),fun _=>rfl⟩
  ·simp only[dD hi];split
   ·rename_i e;subst e;omega
   ·exact Nat.le_refl _
  ·simp only[dD hi,if_neg hj]
 ·exact⟨rfl,fun _=>Nat.le_refl _,fun _ _=>rfl,Nat.le_refl _,fun h=>.inl h,fun h=>h⟩
theorem mz{P:List Nat×Bool->Prop}{i:Nat}:∀{L:List Opt} {s:List Nat×Bool},P s->(∀t o,o ∈ L->P t->P (jI i t o))->P (dr i L s)
 | [],s,h,_=>h
 | o::L,s,h,hs=>mz (L:=L) (s:=jI i s o) (hs s o (by simp) h) fun t o' h'=>hs t o' (List.mem_cons_of_mem _ h')
theorem yv{A B:List Opt}{s:List Nat×Bool}:dr i (A++B) s=dr i B (dr i A s):=by unfold dr;rw[List.foldl_append]
structure Row (a:Nat)(s t:List Nat×Bool):Prop where
 len:t.1.length=s.1.length
 le:∀j,t.1.getD j 0<=s.1.getD j 0
 ne:∀j,(j<a*19\/a*19+19<=j)->t.1.getD j 0=s.1.getD j 0
 sum:t.1.sum<=s.1.sum
 fl:t.2=true->s.2=true\/t.1.sum<s.1.sum
 fl2:s.2=true->t.2=true
theorem Row.refl(a:Nat)(s:List Nat×Bool):Row a s s:=⟨rfl,fun _=>Nat.le_refl _,fun _ _=>rfl,Nat.le_refl _,fun h=>.inl h,fun h=>h⟩
theorem Row.step{a k:Nat}{s t u:List Nat×Bool}(h:Row a s t)(hk:k<19)(h2:Stp (a*19+k) t u):Row a s u:=by
 refine⟨h2.len.trans h.len,fun j=>Nat.le_trans (h2.le j) (h.le j),fun j hj=>(h2.ne j byO).trans (h.ne j hj),Nat.le_trans h2.sum h.sum,fun e=>?_,fun e=>h2.fl2 (h.fl2 e)⟩;rcases h2.fl e with e|e
 ·rcases h.fl e with e|e
  ·exact .inl e
  ·exact .inr (Nat.lt_of_le_of_lt h2.sum e)
 ·exact .inr (bc₀ e h.sum)
theorem zA{a k:Nat}{L:List Opt}{s t:List Nat×Bool}(h:Row a s t)(hk:k<19):Row a s (dr (a*19+k) L t):=
 mz (P:=Row a s) h fun t o _ h=>h.step hk (tj _ _ _)
theorem ou{L:Nat->List Opt}{a:Nat}{s:List Nat×Bool}:∀k,k<=19->Row a s (round L a k s)
 | 0,_=>Row.refl a s
 | k+1,h=>zA (ou k byO) byO
structure Fix (L:Nat->List Opt)(a:Nat)(c c':List Nat):Prop where
 len:c'.length=c.length
 le:∀j,c'.getD j 0<=c.getD j 0
 ne:∀j,(j<a*19\/a*19+19<=j)->c'.getD j 0=c.getD j 0
 fix:∀k,k<19->∀o ∈ L k,c'.getD (a*19+k) 0<=bD c' o
 got:∀k,k<19->c'.getD (a*19+k) 0=c.getD (a*19+k) 0\/∃o ∈ L k,c'.getD (a*19+k) 0=bD c' o
theorem Ai{c c':List Nat}(h:∀j,c'.getD j 0<=c.getD j 0)(o:Opt):bD c' o<=bD c o:=by
 unfold bD;have:=h (o.nx*19+o.md);omega
theorem yw{s:List Nat×Bool}{o:Opt}(h:(jI i s o).2=false):jI i s o=s/\¬ bD s.1 o<s.1.getD i 0:=by
 unfold jI at h ⊢;split
 ·rename_i h1;rw[if_pos h1]at h;cases h
 ·rename_i h1;exact⟨rfl,h1⟩
theorem pU{i:Nat}:∀{L:List Opt} {s:List Nat×Bool},(dr i L s).2=false->dr i L s=s/\∀o ∈ L,¬ bD s.1 o<s.1.getD i 0
 | [],s,h=>⟨rfl,by simp⟩
 | o::L,s,h=>by
  have h0:(dr i (o::L) s)=dr i L (jI i s o):=rfl;rw[h0]at h ⊢;obtain⟨e,f⟩:=pU (L:=L) h;rw[e]at h;obtain⟨e1,f1⟩:=yw h;rw[e,e1];rw[e1]at f;refine⟨rfl,fun o' ho'=>?_⟩;rcases List.mem_cons.1 ho' with rfl|ho'
  ·exact f1
  ·exact f o' ho'
theorem rk{L:Nat->List Opt}{a:Nat}{s:List Nat×Bool}:∀k,(round L a k s).2=false->round L a k s=s/\∀j,j<k->∀o ∈ L j,¬ bD s.1 o<s.1.getD (a*19+j) 0
 | 0,h=>⟨rfl,fun j hj=>byO⟩
 | k+1,h=>by
  have h0:round L a (k+1) s=dr (a*19+k) (L k) (round L a k s):=rfl;rw[h0]at h ⊢;obtain⟨e,f⟩:=pU h;rw[e]at h;obtain⟨e1,f1⟩:=rk k h;rw[e,e1];rw[e1]at f;refine⟨rfl,fun j hj=>?_⟩;by_cases hjk:j=k
  ·subst hjk;exact f
  ·exact f1 j byO
def Got(L:Nat->List Opt)(a:Nat)(c d:List Nat):Prop:=∀k,k<19->d.getD (a*19+k) 0=c.getD (a*19+k) 0\/∃o ∈ L k,bD d o<=d.getD (a*19+k) 0
theorem BW{L:Nat->List Opt}{a k:Nat}{c:List Nat}{s:List Nat×Bool}{o:Opt}(ho:o ∈ L k)(h:Got L a c s.1):Got L a c (jI (a*19+k) s o).1:=by
 have hst:=tj (a*19+k) s o;intro j hj;by_cases hjk:j=k
 ·subst hjk
  by_cases hlt:bD s.1 o<s.1.getD (a*19+j) 0
  ·right
   refine⟨o,ho,Nat.le_trans (Ai hst.le o) ?_⟩;have hi:a*19+j<s.1.length:=by
    refine Decidable.byContradiction fun hn=>?_;rw[uX byO]at hlt;omega
   unfold jI;rw[if_pos hlt];simp only[dD hi,if_true];exact Nat.le_refl _
  ·unfold jI
   rw[if_neg hlt];exact h j hj
 ·have e:=hst.ne (a*19+j) byO
  rcases h j hj with h|⟨o',ho',h⟩
  ·left;rw[e];exact h
  ·right;exact⟨o',ho',by rw[e];exact Nat.le_trans (Ai hst.le o') h⟩
theorem tI{L:Nat->List Opt}{a:Nat}{c:List Nat}{s:List Nat×Bool}(h:Got L a c s.1):∀k,Got L a c (round L a k s).1
 | 0=>h
 | k+1=>mz (P:=fun t=>Got L a c t.1) (tI h k) fun t o ho ht=>BW ho ht
theorem F3{L:Nat->List Opt}{a:Nat}{c d e:List Nat}(h:Stl L a d e)(hr:Row a (c,true) (d,true))(hg:Got L a c d):Fix L a c e:=by
 induction h with
 | @done d e h=>
  have h2:(round L a 19 (d,false)).2=false:=by rw[h]
  obtain⟨e1,f⟩:=rk 19 h2;rw[h]at e1;obtain rfl:e=d:=congrArg Prod.fst e1;refine⟨hr.len,hr.le,hr.ne,fun k hk o ho=>Nat.not_lt.1 (f k hk o ho),fun k hk=>?_⟩;rcases hg k hk with h|⟨o,ho,h⟩
  ·exact .inl h
  ·exact .inr ⟨o,ho,Nat.le_antisymm (Nat.not_lt.1 (f k hk o ho)) h⟩
 | @more d d2 e h _ ih=>
  have h1:=ou (L:=L) (a:=a) (s:=(d,false)) 19 (Nat.le_refl _);rw[h]at h1;have hg2:Got L a c d2:=by
   have:=tI (L:=L) (s:=(d,false)) hg 19;rw[h]at this;exact this
  refine ih ⟨h1.len.trans hr.len,fun j=>Nat.le_trans (h1.le j) (hr.le j),fun j hj=>(h1.ne j hj).trans (hr.ne j hj),Nat.le_trans h1.sum hr.sum,fun _=>.inl rfl,fun _=>rfl⟩ hg2
theorem Ib{L:Nat->List Opt}{a:Nat}{c e:List Nat}(h:Stl L a c e):Fix L a c e:=F3 h (Row.refl a _) fun _ _=>.inl rfl
def p9(n a:Nat)(c:List Nat):Nat->List Nat
 | 0=>c
 | k+1=>(p9 n a c k).set (a*19+k) 1073741824
def vH(n a:Nat)(c:List Nat):List Nat:=if a=n then(p9 n a c 19).set (a*19) 0 else p9 n a c 19
inductive New (p:List UInt8):Nat->List Nat->Prop
 | start:New p (p.length+1) (List.replicate ((p.length+1)*19) 0)
 | step {a:Nat} {c c':List Nat}:New p (a+1) c->Stl (dJ p (vH p.length a c) a) a (vH p.length a c) c'->New p a c'
theorem M2{p:List UInt8}{a:Nat}{c:List Nat}(h:New p a c):a<=p.length+1:=by
 induction h with
 | start=>exact Nat.le_refl _
 | step _ _ ih=>omega
section
variable {lo:Nat}{H:Heap}{sb cb:Nat}{v:Value}{p:List UInt8}{cs:List Nat}
open XYe
theorem PK{a st:Nat}(hs:SrH H sb cb v p cs)(ha:a<=p.length)(hst:st<19)(hlo:lo<=H.length):Ev cp lo 176 [ptr sb,aA a,aA st] H (fun r H'=>Ext H H'/\∃b,H.length<=b/\OwnG lo 7 H' r b (cat aM (dJ p cs a st))):=by
 have hi:=hs.hi;refine stG rfl rfl ?_;unfold JZ;simp only[kB,aC];refine aE ?_;unfold dJ;by_cases h0:st=0
 ·have hd:decide ((st:Int)=0)=true:=decide_eq_true byO
  rw[if_pos h0];replace h0:st<=0:=byO;refine aN ?_ ?_<;>intro h
  ·clear h hd
   (try simp only[aC]);refine bR ?_;refine aB (Qq hs ha hlo) ?_;rintro r H1 ⟨hx,b,hb,ho⟩;refine aE ?_;refine dB ?_;exact⟨hx,b,hb,ho⟩
  ·simp at h
 have hd:decide ((st:Int)=0)=false:=decide_eq_false byO;rw[if_neg h0];refine aN ?_ ?_<;>intro h
 ·simp at h
 clear h hd;(try simp only[aC]);by_cases h9:st<9
 ·have hd:decide ((st:Int)<9)=true:=decide_eq_true byO
  have e:(st:Int)-1=((st-1:Nat):Int):=byO;rw[if_pos h9];refine aN ?_ ?_<;>intro h
  ·clear h hd
   (try simp only[aC]);refine bR ?_;refine aB (Kh (a:=a) (st:=st-1) (first:=1) (lower:=false) hs ha byO byO hlo) ?_;rintro r H1 ⟨hx,b,hb,ho⟩;refine aE ?_;refine dB ?_;exact⟨hx,b,hb,ho⟩
  ·simp at h
 have hd:decide ((st:Int)<9)=false:=decide_eq_false byO;rw[if_neg h9];refine aN ?_ ?_<;>intro h
 ·simp at h
 clear h hd;(try simp only[aC]);by_cases h17:st<17
 ·have hd:decide ((st:Int)<17)=true:=decide_eq_true byO
  have e:(st:Int)-9=((st-9:Nat):Int):=byO;rw[if_pos h17];refine aN ?_ ?_<;>intro h
  ·clear h hd
   (try simp only[aC]);refine bR ?_;refine aB (Kh (a:=a) (st:=st-9) (first:=9) (lower:=true) hs ha byO byO hlo) ?_;rintro r H1 ⟨hx,b,hb,ho⟩;refine aE ?_;refine dB ?_;exact⟨hx,b,hb,ho⟩
  ·simp at h
 have hd:decide ((st:Int)<17)=false:=decide_eq_false byO;rw[if_neg h17];refine aN ?_ ?_<;>intro h
 ·simp at h
 clear h hd;(try simp only[aC]);by_cases hx17:st=17
 ·have hd:decide ((st:Int)=17)=true:=decide_eq_true byO
  rw[if_pos hx17];replace hx17:st<=17:=byO;refine aN ?_ ?_<;>intro h
  ·clear h hd
   (try simp only[aC]);refine bR ?_;refine aB (Qh hs ha hlo) ?_;rintro r H1 ⟨hx,b,hb,ho⟩;refine aE ?_;refine dB ?_;exact⟨hx,b,hb,ho⟩
  ·simp at h
 have hd:decide ((st:Int)=17)=false:=decide_eq_false byO;rw[if_neg hx17];refine aN ?_ ?_<;>intro h
 ·simp at h
 clear h hd;(try simp only[aC]);refine bR ?_;refine aB (RI hs ha hlo) ?_;rintro r H1 ⟨hx,b,hb,ho⟩;refine aE ?_;refine dB ?_;exact⟨hx,b,hb,ho⟩
end
theorem wq(p:List UInt8)(cs:List Nat)(a st:Nat):(dJ p cs a st).length<=200:=by
 unfold dJ;split
 ·unfold oP
  have:=tZ p a;split<;>simp[rE]<;>omega
 ·split
  ·have:=sH (p:=p) (first:=1) (lower:=false) (L:=iX p a ((st-1)%4) (decide (4<=st-1)) false)
   have:=iY p a ((st-1)%4) (decide (4<=st-1)) false;simp only[im,ak₀];omega
  ·split
   ·have:=sH (p:=p) (first:=9) (lower:=true) (L:=iX p a ((st-9)%4) (decide (4<=st-9)) true)
    have:=iY p a ((st-9)%4) (decide (4<=st-9)) true;simp only[im,ak₀];omega
   ·split
    ·unfold sP;split<;>simp
    ·have:=wI (p:=p) (at':=a) 4 0 0
     unfold oU;omega
structure SrW (A H:Heap)(sb cb:Nat)(v:Value)(p:List UInt8)(cs:List Nat):Prop where
 s:SrH H sb cb v p cs
 pl:SlU A v p
 ext:Ext A H
 cbA:A.length<=cb
 ne:sb≠cb
theorem SrW.mono{A H H':Heap}{sb cb:Nat}{v:Value}{p:List UInt8}{cs:List Nat}(h:SrW A H sb cb v p cs)(e:Ext H H'):SrW A H' sb cb v p cs:=
 ⟨h.s.ext e,h.pl,h.ext.trans e,h.cbA,h.ne⟩
theorem SrW.set{A H H':Heap}{sb cb i x:Nat}{v:Value}{p:List UInt8}{cs:List Nat}(h:SrW A H sb cb v p cs)(hk:Keep cb H H')(hg:H'.get cb=some (uN (cs.set i x)))(hx:x<=1073741824):SrW A H' sb cb v p (cs.set i x):=by
 have hA:=hk.ext h.ext h.cbA;refine⟨⟨hk.get h.s.g h.ne,hg,h.pl.mono hA,by simpa using h.s.len,h.s.hi,fun j=>?_⟩,h.pl,hA,h.cbA,h.ne⟩;by_cases hi:i<cs.length
 ·rw[dD hi];split
  ·exact hx
  ·exact h.s.le j
 ·rw[List.set_eq_of_length_le byO];exact h.s.le j
section
variable {lo:Nat}{A H:Heap}{sb cb:Nat}{v:Value}{p:List UInt8}{cs:List Nat}
open XYe
theorem S9{a:Nat}(hs:SrW A H sb cb v p cs)(ha:a<=p.length)(hlo:lo<=A.length):Ev cp lo 128 [ptr sb,aA a] H (fun _ H'=>Keep cb H H'/\∃cs',Stl (dJ p cs a) a cs cs'/\SrW A H' sb cb v p cs'):=by
 have hi:=hs.s.hi;have hcbl:=Heap.get_lt hs.s.c;have hsbl:=Heap.get_lt hs.s.g;have hA:=hs.cbA;refine stG rfl rfl ?_;unfold JF;simp only[kB,aC];refine aE ?_;have hxb:Ext H (H++[some (List.replicate 19 (Value.slice none 0 0))]):=Ext.app _ _;have hgb:(H++[some (List.replicate 19 (Value.slice none 0 0))]).get H.length=some (List.replicate 19 (Value.slice none 0 0)):=aG;have hlc:(H++[some (List.replicate 19 (Value.slice none 0 0))]).length<=H.length+1/\H.length+1<=(H++[some (List.replicate 19 (Value.slice none 0 0))]).length:=by simp
 change wpS cp lo _ _ _ (H++[some (List.replicate 19 (Value.slice none 0 0))]);have hX0:(List.replicate 19 (Value.slice none 0 0)).length<=19/\19<=(List.replicate 19 (Value.slice none 0 0)).length:=by simp
 generalize List.replicate 19 (Value.slice none 0 0)=X0 at *;generalize H++[some X0]=H0 at hxb hgb hlc;obtain⟨OL,hOL⟩:∃OL,False\/dJ p cs a=OL:=⟨_,.inr rfl⟩;refine eS (fun S' H'=>(SrW A H' sb cb v p cs/\Ext H H')/\(∃X:List Value,(X.length<=19/\19<=X.length)/\H'.get H.length=some X/\∀i,i<19->∃w b,X[i]?=some w/\H.length<b/\OwnG lo 7 H' w b (cat aM (dJ p cs a i)))/\∃(z:Nat->Value),S'=[ptr sb,aA a,ptr H.length,z 3,z 4,z 5,z 6,z 7,z 8,z 9,z 10,z 11,z 12,z 13,z 14,z 15,z 16,z 17,z 18]) ?_ ?_
 ·refine aa (fun k S H'=>Ext H H'/\(∃X:List Value,(X.length<=19/\19<=X.length)/\H'.get H.length=some X/\∀i,i<k->∃w b,X[i]?=some w/\H.length<b/\OwnG lo 7 H' w b (cat aM (dJ p cs a i)))/\∃(z:Nat->Value),S=[ptr sb,aA a,ptr H.length,z 3,z 4,z 5,z 6,z 7,z 8,.int .i64 (k:Nat),z 10,z 11,z 12,z 13,z 14,z 15,z 16,z 17,z 18]) 19 ⟨hxb,⟨X0,hX0,hgb,fun i hi=>absurd hi byO⟩,aJ rfl⟩ ?_ ?_ ?_
  ·rintro k S H' hk ⟨h1,h2,z,rfl⟩
   exact⟨decide ((k:Int)<19),by simp(disch:=try exact dO)only[evB,xtr,Nat.reduceAdd,Nat.reduceBEq,Int.reduceToNat, *],by simp;omega⟩
  ·rintro k S H1 hk ⟨hx1,⟨X,hX,hgX,hXi⟩,z,rfl⟩
   have hl1:=hx1.1;have hXl:=Heap.get_lt hgX;replace hXi:False\/_:=.inr hXi;refine aE ?_;refine bR ?_;refine aB (PK (lo:=lo) (st:=k) (hs.s.ext hx1) ha hk byO) ?_;rintro r H2 ⟨hx2,b,hb,ho⟩;obtain⟨ad,rfl⟩:=ho.len byO fS;have hgX2:=hx2.get hgX;have hl2:=hx2.1;obtain⟨q,hq⟩:∃q,False\/(dJ p cs a k).length=q:=⟨_,.inr rfl⟩;rw[hq.resolve_left id]at ho ⊢;refine aE ?_;have hk2:Keep H.length H2 (List.set H2 H.length (some (X.set k (Value.slice ad q q)))):=keepSet;refine⟨hk2.ext (hx1.trans hx2) (Nat.le_refl _),⟨_,by simp;omega,aF byO,fun i hi=>?_⟩,aJ ncM⟩;by_cases hik:i=k
   ·subst hik
    exact⟨_,b,List.getElem?_set_self byO,byO,ho.keep hk2 byO⟩
   ·obtain⟨w,b',h1,h2,h3⟩:=hXi.resolve_left id i byO
    exact⟨w,b',by rw[List.getElem?_set_ne byO];exact h1,h2,(h3.mono hx2).keep hk2 byO⟩
  ·rintro S H1 ⟨hx1,hX,z,rfl⟩
   (try simp only[aC]);exact⟨⟨hs.mono hx1,hx1⟩,hX,aJ rfl⟩
 ·rintro S H1 ⟨⟨hs1,hx1⟩,⟨X,hX,hgX,hXi⟩,z,rfl⟩
  have hok:∀k,∀o ∈ dJ p cs a k,o.ok p.length a:=fun k=>iA ha;have hLl:False\/∀k,(dJ p cs a k).length<=200:=.inr (wq p cs a);generalize dJ p cs a=L at hXi hok hLl ⊢;clear hOL;obtain⟨F,hF⟩:∃F:Heap->Prop,∀H',F H'↔(H'.get H.length=some X/\∀i,i<19->∃w b,X[i]?=some w/\H.length<b/\OwnG lo 7 H' w b (cat aM (L i))):=⟨_,fun _=>Iff.rfl⟩;have hFk:∀{H' H''},F H'->Keep cb H' H''->F H'':=by
   intro H' H'' h1 h2;obtain⟨g1,g2⟩:=(hF _).1 h1;refine(hF _).2 ⟨h2.get g1 byO,fun i hi=>?_⟩;obtain⟨w,b,e1,e2,e3⟩:=g2 i hi;exact⟨w,b,e1,e2,e3.keep h2 byO⟩
  have hF1:F H1:=(hF _).2 ⟨hgX,hXi⟩;clear hgX hXi;refine aE ?_;refine bH (fun m S H'=>∃(c1:List Nat) (t:Bool),((Keep cb H H'/\SrW A H' sb cb v p c1)/\F H')/\((t=true/\m=c1.sum+1/\∀c',Stl L a c1 c'->Stl L a cs c')\/(t=false/\m=0/\Stl L a cs c1))/\∃(z:Nat->Value),S=[ptr sb,aA a,ptr H.length,z 3,.bool t,z 5,z 6,z 7,z 8,z 9,z 10,z 11,z 12,z 13,z 14,z 15,z 16,z 17,z 18]) (cs.sum+1) ⟨cs,true,⟨⟨Ext.keep hx1,hs1⟩,hF1⟩,.inl ⟨rfl,rfl,fun _ h=>h⟩,aJ rfl⟩ ?_;clear hF1 hs1 hx1;rintro m S H2 ⟨c1,t,⟨⟨hk2,hs2⟩,hF2⟩,hcase,z,rfl⟩;rcases hcase with ⟨rfl,hm,hst⟩|⟨rfl,hm,hst⟩
  ·replace hst:False\/_:=.inr hst
   replace hm:m<=c1.sum+1/\c1.sum+1<=m:=byO;obtain⟨hgX,hXi⟩:=(hF _).1 hF2;replace hXi:False\/_:=.inr hXi;(try simp only[aC]);refine aN ?_ ?_<;>intro h
   ·clear h
    refine aE ?_;rw[List.take_of_length_le hX.1];refine aa (fun k S H'=>((Keep cb H H'/\SrW A H' sb cb v p (round L a k (c1,false)).1)/\F H')/\∃(z:Nat->Value),S=[ptr sb,aA a,ptr H.length,z 3,.bool (round L a k (c1,false)).2,z 5,z 6,z 7,z 8,z 9,z 10,z 11,.agg X.toArray,.int .i64 (k:Nat),z 14,z 15,z 16,z 17,z 18]) 19 ⟨⟨⟨hk2,hs2⟩,hF2⟩,aJ rfl⟩ ?_ ?_ ?_
    ·rintro k S H' hk ⟨h1,z,rfl⟩
     exact⟨decide ((k:Int)<19),by simp(disch:=try exact dO)only[evB,xtr,Nat.reduceAdd,Nat.reduceBEq,Int.reduceToNat, *],by simp;omega⟩
    ·rintro k S H3 hk ⟨⟨⟨hk3,hs3⟩,hF3⟩,z,rfl⟩
     clear hF2 hk2 hs2 hgX hXi;obtain⟨hgX,hXi⟩:=(hF _).1 hF3;obtain⟨w,b,hw,hb,ho⟩:=hXi k hk;obtain⟨aw,rfl⟩:=ho.len byO fS;clear hXi;have hr:round L a (k+1) (c1,false)=dr (a*19+k) (L k) (round L a k (c1,false)):=rfl;have hokk:=hok k;rw[hr];clear hr;generalize round L a k (c1,false)=s at hs3 ⊢;have hKl:=hLl.resolve_left id k;generalize hLK:L k=K at ho hokk hw hKl ⊢;clear hLK hgX;refine aE ?_;refine aa (fun j S H'=>((Keep cb H H'/\SrW A H' sb cb v p (dr (a*19+k) (K.take j) s).1)/\Keep cb H3 H')/\∃(z:Nat->Value),S=[ptr sb,aA a,ptr H.length,z 3,.bool (dr (a*19+k) (K.take j) s).2,aA k,z 6,z 7,z 8,z 9,z 10,z 11,.agg X.toArray,.int .i64 (k:Nat),.slice aw K.length K.length,.int .i64 (K.length:Nat),.int .i64 (j:Nat),z 17,z 18]) K.length ⟨⟨⟨hk3,hs3⟩,Ext.keep (Ext.refl _)⟩,aJ rfl⟩ ?_ ?_ ?_
     ·rintro j S H' hj ⟨h1,z,rfl⟩
      exact⟨decide ((j:Int)<(K.length:Nat)),by simp(disch:=try exact dO)only[evB,xtr,Nat.reduceAdd,Nat.reduceBEq,Int.reduceToNat, *],by simp⟩
     ·rintro j S H4 hj ⟨⟨⟨hk4,hs4⟩,hk34⟩,z,rfl⟩
      clear hs3;have ho4:=ho.keep hk34 byO;obtain⟨p4,o4,X4,i4,g4,l4,e4⟩:=ho4.at byO fS hj;have hoo:=hokk _ (List.getElem_mem hj);have hr:dr (a*19+k) (K.take (j+1)) s=jI (a*19+k) (dr (a*19+k) (K.take j) s) K[j]:=by
       rw[List.take_succ_eq_append_getElem hj,yv];rfl
      rw[hr];clear hr hokk ho4;generalize dr (a*19+k) (K.take j) s=s4 at hs4 ⊢;generalize K[j]=o at e4 hoo ⊢;have hl4:=hk4.len;refine aE ?_;change wpS cp lo _ _ _ (H4++[some (aM o)]);have hxc:Ext H4 (H4++[some (aM o)]):=Ext.app _ _;have hgo:(H4++[some (aM o)]).get H4.length=some (aM o):=aG;generalize H4++[some (aM o)]=H5 at hxc hgo;clear i4 g4 l4 e4;have hs5:=hs4.mono hxc;have o1:=hoo.sz;have o2:=hoo.run;have o3:=hoo.nx;have o4:=hoo.md;clear hoo;refine bR ?_;refine aB (Ih (lo:=lo) (o:=o) hs5.s byO) ?_;rintro r H6 ⟨hx6,rfl⟩;have hs6:=hs5.mono hx6;have hk46:Keep cb H4 H6:=Ext.keep (hxc.trans hx6);have hl6:=hk46.len;have hrel:jI (a*19+k) s4 o=if bD s4.1 o<s4.1.getD (a*19+k) 0 then(s4.1.set (a*19+k) (bD s4.1 o),true) else s4:=rfl
      replace hrel:False\/_:=.inr hrel;clear hgo hs5 hs4;obtain⟨ss,bb⟩:=s4;simp only at hs6 hrel ⊢;generalize bD ss o=x at hrel;have hgs:=hs6.s.g;have hgc:=hs6.s.c;have hlen:=hs6.s.len;have hidx:a*19+k<ss.length:=byO;have hat:=mW hidx;have hle:=hs6.s.le (a*19+k);have hul:(uN ss).length<=ss.length/\ss.length<=(uN ss).length:=by simp
      have hset:False\/∀y,(uN ss).set (a*19+k) (aA y)=uN (ss.set (a*19+k) y):=.inr (fun y=>by simp[uN,List.map_set]);generalize ss.getD (a*19+k) 0=y at hat hrel hle;generalize uN ss=Y at hgc hat hul hset;replace hlen:ss.length<=(p.length+1)*19/\(p.length+1)*19<=ss.length:=byO;refine aE ?_;by_cases hxy:x<y
      ·have hd:decide ((x:Int)<(y:Nat))=true:=decide_eq_true byO
       refine aN ?_ ?_<;>intro h
       ·clear h hd
        refine aE ?_;have e:=hrel.resolve_left id;rw[if_pos hxy]at e;rw[e];clear e;have e2:=hset.resolve_left id x;have hk7:Keep cb H6 (List.set H6 cb (some (Y.set (a*19+k) (Value.int .i64 (x:Nat))))):=keepSet;have hg7:Heap.get (List.set H6 cb (some (Y.set (a*19+k) (Value.int .i64 (x:Nat))))) cb=some (Y.set (a*19+k) (Value.int .i64 (x:Nat))):=aF byO;refine⟨⟨⟨an hk4 (.inl rfl) (an hk46 (.inl rfl) hk7),hs6.set hk7 (by rw[hg7];exact congrArg some e2) byO⟩,an hk34 (.inl rfl) (an hk46 (.inl rfl) hk7)⟩,aJ ncM⟩
       ·simp at h
      ·have hd:decide ((x:Int)<(y:Nat))=false:=decide_eq_false byO
       have e:=hrel.resolve_left id;rw[if_neg hxy]at e;rw[e];clear e;refine aN ?_ ?_<;>intro h
       ·simp at h
       ·clear h hd
        refine aE ?_;exact⟨⟨⟨an hk4 (.inl rfl) hk46,hs6⟩,an hk34 (.inl rfl) hk46⟩,aJ ncM⟩
     ·rintro S H4 ⟨⟨⟨hk4,hs4⟩,hk34⟩,z,rfl⟩
      rw[List.take_length]at hs4 ⊢;refine aE ?_;exact⟨⟨⟨hk4,hs4⟩,hFk hF3 hk34⟩,aJ ncM⟩
    ·rintro S H3 ⟨⟨⟨hk3,hs3⟩,hF3⟩,z,rfl⟩
     have hrow:=ou (L:=L) (a:=a) (s:=(c1,false)) 19 (Nat.le_refl _);obtain⟨d,t,hdt⟩:∃d t,round L a 19 (c1,false)=(d,t):=⟨_,_,rfl⟩;rw[hdt]at hs3 hrow ⊢;clear hgX hXi hk2 hs2 hF2;(try simp only[aC]);refine⟨if t then d.sum+1 else 0,?_,d,t,⟨⟨hk3,hs3⟩,hF3⟩,?_,aJ rfl⟩
     ·cases t with
      | true=>
       rcases hrow.fl rfl with h|h
       ·cases h
       ·simp only at h ⊢;simp;omega
      | false=>simp;omega
     ·cases t with
      | true=>exact .inl ⟨rfl,rfl,fun c' h=>hst.resolve_left id c' (.more hdt h)⟩
      | false=>exact .inr ⟨rfl,rfl,hst.resolve_left id _ (.done hdt)⟩
   ·cases h
  ·replace hst:False\/_:=.inr hst
   replace hm:m<=0:=byO;(try simp only[aC]);refine aN ?_ ?_<;>intro h
   ·cases h
   ·(try simp only[aC])
    refine eu (by simp(disch:=try exact dO)only[evB,xtr,Nat.reduceAdd,Nat.reduceBEq,Int.reduceToNat, *];rfl) ?_;exact⟨hk2,c1,hst.resolve_left id,hs2⟩
end
theorem Iq(n:Nat):bA (List.replicate 19 (Value.int .i64 0)) n=uN (List.replicate (n*19) 0):=by
 have:bA (List.replicate 19 (Value.int .i64 0)) n=List.replicate (n*19) (Value.int .i64 0):=by
  unfold bA
  induction n with
  | zero=>rfl
  | succ n ih=>rw[List.replicate_succ,List.flatten_cons,ih,List.replicate_append_replicate,Nat.succ_mul,Nat.add_comm]
 rw[this,uN,List.map_replicate];rfl
section
variable {lo:Nat}{H:Heap}{v:Value}{p:List UInt8}
open XYe
theorem Ru(hp:SlU H v p)(hl:p.length<=4096)(hlo:lo<=H.length):Ev cp lo 75 [v] H (fun r H'=>Ext H H'/\∃sb cb cs,r=ptr sb/\New p 0 cs/\SrW H H' sb cb v p cs):=by
 obtain⟨ad,c,ev⟩:=hp.len;subst ev;have htn:((p.length:Int)+1).toNat=p.length+1:=byO;refine stG rfl rfl ?_;unfold OG;simp only[kB,aC];refine aE ?_;clear htn;generalize hC:uN (List.replicate ((p.length+1)*19) 0)=C;have hz:=(Iq (p.length+1)).trans hC;change bA [Value.int .i64 0,Value.int .i64 0,Value.int .i64 0,Value.int .i64 0,Value.int .i64 0,Value.int .i64 0,Value.int .i64 0,Value.int .i64 0,Value.int .i64 0,Value.int .i64 0,Value.int .i64 0,Value.int .i64 0,Value.int .i64 0,Value.int .i64 0,Value.int .i64 0,Value.int .i64 0,Value.int .i64 0,Value.int .i64 0,Value.int .i64 0] (p.length+1)=C at hz;rw[hz];clear hz;have hxb:Ext H (H++[some C,some [Value.slice ad p.length c,.slice (some ⟨H.length,0,none⟩) (p.length+1) (p.length+1)]]):=Ext.app _ _;have hg0:(H++[some C,some [Value.slice ad p.length c,.slice (some ⟨H.length,0,none⟩) (p.length+1) (p.length+1)]]).get H.length=some C:=aG;have hg1:(H++[some C,some [Value.slice ad p.length c,.slice (some ⟨H.length,0,none⟩) (p.length+1) (p.length+1)]]).get (H.length+1)=some [Value.slice ad p.length c,.slice (some ⟨H.length,0,none⟩) (p.length+1) (p.length+1)]:=by rw[bL];rfl
 generalize H++[some C,some [Value.slice ad p.length c,.slice (some ⟨H.length,0,none⟩) (p.length+1) (p.length+1)]]=H0 at hxb hg0 hg1;have hs0:SrW H H0 (H.length+1) H.length (.slice ad p.length c) p (List.replicate ((p.length+1)*19) 0):=by
  refine⟨⟨hg1,by rw[hC];exact hg0,hp.mono hxb,by simp,hl,fun i=>?_⟩,hp,hxb,Nat.le_refl _,byO⟩;simp only[au₀,List.getElem?_replicate];split<;>simp
 clear hg0 hg1 hC;have hn0:New p (p.length+1) (List.replicate ((p.length+1)*19) 0):=.start;generalize List.replicate ((p.length+1)*19) 0=cs at hs0 hn0;refine aa (fun k S H'=>(∃cs,New p (p.length+1-k) cs/\SrW H H' (H.length+1) H.length (.slice ad p.length c) p cs)/\∃(z:Nat->Value),S=[.slice ad p.length c,z 1,ptr (H.length+1),.int .i64 ((p.length:Int)-(k:Nat)),z 4,z 5,z 6,z 7,z 8]) (p.length+1) ⟨⟨cs,hn0,hs0⟩,aJ (by simp)⟩ ?_ ?_ ?_
 ·rintro k S H' hk ⟨h1,z,rfl⟩
  exact⟨decide ((0:Int)<=(p.length:Int)-(k:Nat)),by simp(disch:=try exact dO)only[evB,xtr,Nat.reduceAdd,Nat.reduceBEq,Int.reduceToNat, *],by simp;omega⟩
 ·rintro k S H1 hk ⟨⟨cs,hn,hs⟩,z,rfl⟩
  obtain⟨a,ha,hak⟩:∃a:Nat,(p.length:Int)-(k:Nat)=(a:Nat)/\p.length+1-k=a+1/\p.length+1-(k+1)=a/\a<=p.length:=⟨p.length-k,byO,byO⟩;have ha2:(p.length:Int)-((k+1:Nat):Nat)=(a:Nat)-1:=byO;rw[hak.2.1,ha2,ha];rw[hak.1]at hn;obtain⟨_,_,hap⟩:=hak;clear ha2 ha hs0 hn0;replace hn:False\/_:=.inr hn;have hx1:=hs.ext;have hl1:=hx1.1;refine aE ?_;refine aa (fun j S H'=>SrW H H' (H.length+1) H.length (.slice ad p.length c) p (p9 p.length a cs j)/\∃(z:Nat->Value),S=[.slice ad p.length c,z 1,ptr (H.length+1),aA a,z 4,z 5,z 6,z 7,.int .i64 (j:Nat)]) 19 ⟨hs,aJ rfl⟩ ?_ ?_ ?_
  ·rintro j S H' hj ⟨h1,z,rfl⟩
   exact⟨decide ((j:Int)<19),by simp(disch:=try exact dO)only[evB,xtr,Nat.reduceAdd,Nat.reduceBEq,Int.reduceToNat, *],by simp;omega⟩
  ·rintro j S H2 hj ⟨hs2,z,rfl⟩
   have hr:p9 p.length a cs (j+1)=(p9 p.length a cs j).set (a*19+j) 1073741824:=rfl;rw[hr];clear hr;generalize p9 p.length a cs j=ss at hs2 ⊢;have hgs:=hs2.s.g;have hgc:=hs2.s.c;have hll:=Heap.get_lt hgc;have hlen:=hs2.s.len;have hidx:a*19+j<ss.length:=byO;have hul:(uN ss).length<=ss.length/\ss.length<=(uN ss).length:=by simp
   have hset:False\/(uN ss).set (a*19+j) (aA 1073741824)=uN (ss.set (a*19+j) 1073741824):=.inr (by simp[uN,List.map_set]);generalize uN ss=Y at hgc hul hset;replace hlen:ss.length<=(p.length+1)*19/\(p.length+1)*19<=ss.length:=byO;refine aE ?_;have hk7:Keep H.length H2 (List.set H2 H.length (some (Y.set (a*19+j) (Value.int .i64 1073741824)))):=keepSet;have hg7:Heap.get (List.set H2 H.length (some (Y.set (a*19+j) (Value.int .i64 1073741824)))) H.length=some (Y.set (a*19+j) (Value.int .i64 1073741824)):=aF byO;exact⟨hs2.set hk7 (by rw[hg7];exact congrArg some (hset.resolve_left id)) byO,aJ ncM⟩
  ·rintro S H2 ⟨hs2,z,rfl⟩
   (try simp only[aC]);refine bz (fun S' H'=>SrW H H' (H.length+1) H.length (.slice ad p.length c) p (vH p.length a cs)/\∃(z:Nat->Value),S'=[.slice ad p.length c,z 1,ptr (H.length+1),aA a,z 4,z 5,z 6,z 7,z 8]) ?_ ?_
   ·unfold vH
    generalize p9 p.length a cs 19=ss at hs2 ⊢;by_cases han:a=p.length
    ·have hd:decide ((a:Int)=(p.length:Nat))=true:=decide_eq_true byO
     rw[if_pos han];replace han:a<=p.length/\p.length<=a:=byO;have hgs:=hs2.s.g;have hgc:=hs2.s.c;have hll:=Heap.get_lt hgc;have hlen:=hs2.s.len;have hidx:a*19<ss.length:=byO;have hul:(uN ss).length<=ss.length/\ss.length<=(uN ss).length:=by simp
     have hset:False\/(uN ss).set (a*19) (aA 0)=uN (ss.set (a*19) 0):=.inr (by simp[uN,List.map_set]);generalize uN ss=Y at hgc hul hset;replace hlen:ss.length<=(p.length+1)*19/\(p.length+1)*19<=ss.length:=byO;refine aN ?_ ?_<;>intro h
     ·clear h hd
      refine aE ?_;have hk7:Keep H.length H2 (List.set H2 H.length (some (Y.set (a*19) (Value.int .i64 0)))):=keepSet;have hg7:Heap.get (List.set H2 H.length (some (Y.set (a*19) (Value.int .i64 0)))) H.length=some (Y.set (a*19) (Value.int .i64 0)):=aF byO;exact⟨hs2.set hk7 (by rw[hg7];exact congrArg some (hset.resolve_left id)) byO,aJ ncM⟩
     ·simp at h
    ·have hd:decide ((a:Int)=(p.length:Nat))=false:=decide_eq_false byO
     rw[if_neg han];refine aN ?_ ?_<;>intro h
     ·simp at h
     ·(try simp only[aC])
      exact⟨hs2,aJ ncM⟩
   ·rintro S' H3 ⟨hs3,z,rfl⟩
    generalize hR:vH p.length a cs=cs3 at hs3;replace hR:False\/_:=.inr hR;(try simp only[aC]);refine bR ?_;refine aB (S9 (lo:=lo) hs3 hap hlo) ?_;rintro r H4 ⟨hk4,cs4,hst,hs4⟩;replace hst:False\/_:=.inr hst;refine aE ?_;refine⟨⟨cs4,.step (hn.resolve_left id) ?_,hs4⟩,aJ ncM⟩;rw[hR.resolve_left id];exact hst.resolve_left id
 ·rintro S H1 ⟨⟨cs,hn,hs⟩,z,rfl⟩
  rw[Nat.sub_self]at hn;have hx:=hs.ext;replace hn:False\/_:=.inr hn;refine aE ?_;refine dB ?_;exact⟨hx,_,_,cs,rfl,hn.resolve_left id,hs⟩
end
end Go.Proofs.YtmnlgdpdgjbfgaaGreat
