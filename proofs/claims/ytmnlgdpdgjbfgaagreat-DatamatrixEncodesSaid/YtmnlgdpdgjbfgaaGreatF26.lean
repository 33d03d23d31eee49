/- Lemmas. -/
import Derived.Test.YtmnlgdpdgjbfgaaGreatF12
import Derived.Test.YtmnlgdpdgjbfgaaGreatF24
import Derived.Test.YtmnlgdpdgjbfgaaGreatF25
set_option linter.all false
namespace Go.Proofs.YtmnlgdpdgjbfgaaGreat
open Go.Abs Go.RS
variable{H:Heap}{v:Value}{i:Nat}
set_option maxRecDepth 20000
theorem DT{lo:Nat}{b:Nat}{l:List Int}(h:Own lo 1 H v b (aW l))(hl:0<l.length):v=.slice (some ⟨b,0,some 1⟩) l.length l.length/\H.get b=some (aW l):=by
 obtain⟨_,⟨_,h⟩|⟨n,_,h1,rfl,h2⟩⟩:=h
 ·have:=congrArg List.length h;rw[eE]at this;simp only[an₀]at this;omega
 ·rw[eE,Nat.mul_one]at h1
  subst h1;exact⟨rfl,h2⟩
section
variable {lo:Nat}{H:Heap}
open XYf
theorem RD(hi:i<30)(hlo:lo<=H.length):Ev cp lo 34 [(dz i).sz.val] H (fun r H'=>Ext H H'/\r=cdV (fB 301) (dz i).ck 1):=by
 have hz:=uA hi;generalize dz i=z at *;obtain⟨n1,n2,dn,d2,c2,-,k1,k2,al⟩:=hz;have hok:ng 2 256 301 (z.ck:Nat) 1:=⟨⟨_,AP⟩,byO,byO,byO,byO⟩;have hdiv:(z.c:Int).tdiv (z.n:Int)=(z.ck:Nat):=(Int.ofNat_tdiv z.c z.n).symm;unfold Dz.sz Sz.val;refine stG rfl rfl ?_;unfold QI;simp only[kB,aD];refine aA ?_;generalize hG:H++_=G at *;obtain⟨g0,hxG⟩:=dk hG;have g1:Heap.get G (H.length+1)=some (List.replicate 5 (Value.int .i64 0)):=by rw[<-hG,bC];rfl
 clear hG;have hlG:=Heap.get_lt g1;refine aT ?_;refine aC (Uj (ch:=2) (sz:=256) (po:=301) (r:=(z.ck:Nat)) (b:=1) byO byO) ?_;rintro r H1 ⟨hx1,-,-,hv⟩;rw[hv hok];clear hv;have g0:=(hx1).get g0;have g1:=(hx1).get g1;have hx1:=hxG.trans hx1;have hl1:=Heap.get_lt g1;unfold cdI;refine aA ?_;refine aK ?_;exact⟨(hx1.set byO).trans (Ext.app _ _),rfl⟩
end
def qu(b:Nat)(v:Value):Prop:=∀b' o sp k c,v=.slice (some ⟨b',o,sp⟩) k c->b'≠b
theorem Sl.off{α:Type}{enc:α->Value}{H H':Heap}{v:Value}{l:List α}{b:Nat}(h:Sl enc H v l)(hk:Keep b H H')(hn:qu b v):Sl enc H' v l:=by
 rcases h with h|⟨b',o,sp,cap,xs,h1,h2,h3⟩
 ·exact .inl h
 ·exact .inr ⟨b',o,sp,cap,xs,h1,hk.get h2 (hn _ _ _ _ _ h1),h3⟩
theorem Sl.notAt{α:Type}{enc:α->Value}{H:Heap}{v:Value}{l:List α}{n:Nat}(h:Sl enc H v l)(hn:H.length<=n):qu n v:=by
 rintro b' o sp k c rfl;rcases h with ⟨h,_⟩|⟨b2,o2,sp2,cap,xs,h1,h2,h3⟩
 ·cases h
 ·cases h1
  have:=Heap.get_lt h2;omega
theorem NewV.notAt{n b:Nat}{v:Value}(h:NewV n v)(hb:b<n):qu b v:=fun b' o sp k c e=>by have:=h b' o sp k c e;omega
def AE:Value->Bool
 | .slice _ _ _=>true
 | _=>false
def ur(c:List Value):Bool:=c.all AE
theorem Ah{D:List Value}{x:Value}(h:ur D=true)(hx:AE x=true):ur (D++[x])=true:=by grind[ur]
theorem vW{α:Type}{D:List α}{x d:α}(h:i<D.length):(D++[x]).getD i d=D.getD i d:=by
 grind
theorem HP{α:Type}{enc:α->Value}{H H':Heap}{l:List α}{t:Nat}{D:List Value}(hk:Keep t H H')(hD:H.get t=some D)(hs:ur D=true)(henc:∀x,AE (enc x)=false)(hl:0<l.length)(h:Sl enc H v l):Sl enc H' v l:=by
 rcases h with ⟨rfl,rfl⟩|⟨b,o,sp,cap,xs,h1,h2,h3,h4,h5⟩
 ·simp at hl
 ·refine .inr ⟨b,o,sp,cap,xs,h1,hk.get h2 ?_,h3,h4,h5⟩
  rintro rfl;rw[hD]at h2;cases h2;cases l with
  | nil=>simp at hl
  | cons a l=>
   have e:((D.drop o).take (a::l).length)[0]?=some (enc a):=by rw[h3];rfl
   rw[List.getElem?_take,if_pos (by simp),List.getElem?_drop]at e;have hm:=List.mem_of_getElem? e;have:=List.all_eq_true.1 hs _ hm
   simp_all
theorem KM{α:Type}{enc:α->Value}{l:List α}(h:Sl enc H v l):AE v=true:=by
 obtain⟨a,c,rfl⟩:=h.len;rfl
theorem T4{vs:List Value}(h:i<vs.length):vs[i]?=some (vs.getD i nl):=by
 simp_all
theorem Dd{β:Type}{l:List β}(e:β)(h:i<l.length):l.take (i+1)=l.take i++[l.getD i e]:=by
 simp_all
theorem Ag{cp:FuncId->Option CF}{lo base:Nat}{z:List Value}{v x:Value}{b t m:Nat}{sp:Option Nat}{D:List Value}{R:Value->Heap->Prop}(ho:Own base 1 H v b D)(hlo:lo<=base)(hbl:base<=H.length)(hx:AE x=true)(ht:H.get t=some [x])(hbig:D.length+1<=4294967296)
  (k:∀v' H' b',Own base 1 H' v' H.length (D++[x])->Keep b' H H'->(b'=H.length\/(b'=b/\H.get b'=some D))->H'.length=H.length+1->R v' H'):wpH cp lo (.app 1 z) [v,.slice (some ⟨t,0,sp⟩) 1 m] H R:=by
 have hone:oneCells [x]=true:=by
  cases x<;>simp[AE]at hx;rfl
 obtain⟨hb,⟨rfl,rfl⟩|⟨n,h1,h2,rfl,h4⟩⟩:=ho
 ·refine di (b:=H.length) (cells:=[]) (c:=[x]) (Own.nil byO) byO byO byO (by simp) ht (by simp) (by simp) hone ?_
  intro v' H' a1 a2 a3;exact k v' H' _ ⟨hbl,a1.2⟩ a2 (.inl rfl) a3
 ·refine di (b:=b) (cells:=D) (c:=[x]) ⟨byO,.inr ⟨n,h1,h2,rfl,h4⟩⟩ byO byO byO hbig ht (by simp) (by simp) hone ?_
  intro v' H' a1 a2 a3;exact k v' H' _ ⟨hbl,a1.2⟩ a2 (.inr ⟨rfl,h4⟩) a3
theorem HO{α:Type}{enc:α->Value}{H H':Heap}{l:List α}{t:Nat}{D:List Value}(hk:Keep t H H')(hD:t=H.length\/H.get t=some D)(hs:ur D=true)(henc:∀x,AE (enc x)=false)(hl:0<l.length)(h:Sl enc H v l):Sl enc H' v l:=by
 rcases hD with rfl|hD
 ·exact h.mono ⟨hk.len,fun i hi=>hk.eq i hi byO⟩
 grind[HP]
theorem Fo{b c:Nat}{A B C:Heap}(h:Keep b A B)(k:Keep c B C)(hc:A.length<=c):Keep b A C:=⟨Nat.le_trans h.len k.len,fun i hi hne=>(k.eq i (bd₀ hi h.len) byO).trans (h.eq i hi hne)⟩
def usL(n i:Nat):List Int:=(List.range n).map fun x=>((cnt i n x:Nat):Int)
theorem KU(n i:Nat):(usL n i).length=n:=by simp[usL]
theorem TX(n:Nat)(hn:0<n):usL n 0=List.replicate n 0:=by
 unfold usL;rw[List.map_congr_left (g:=fun _=>(0:Int)) (fun x hx=>by
  rw[show cnt 0 n x=0 by exact Nat.div_eq_of_lt byO];rfl),List.map_const',List.length_range]
theorem Pd{n i:Nat}(hn:0<n):(usL n i).getD (i%n) 0=((i/n:Nat):Int):=by
 grind[usL,Nat.mod_lt,E8]
theorem He{n i:Nat}(hn:0<n):(usL n i).set (i%n) (((i/n:Nat):Int)+1)=usL n (i+1):=by
 have hx:=Nat.mod_lt i hn;have:=ug (n:=n) (k:=i%n) (F:=fun x=>((cnt i n x:Nat):Int)) (G:=fun x=>((cnt (i+1) n x:Nat):Int)) hx (fun x hx2 hne=>by
  grind[xL])
 rw[xL hx,if_pos rfl,E8 hn]at this
 assumption
def td(s:Sz)(l:List Int)(H:Heap)(r:Value):Prop:=
 (jt s l s.d≠0->r=.tuple #[.slice none 0 0,.int .i64 (jt s l s.d)]) /\
 (∀i,i<30->s=(dz i).sz->∀e:List (El F1),l=en e->e.length=(dz i).d->∃vo,r=.tuple #[vo,.int .i64 0]/\SlI H vo (ilv (dz i).n ((dz i).W e) ((dz i).d+(dz i).c)))
theorem uf{s:Sz}{l:List Int}{k:Int}(he:jt s l s.d=k)(hk:k≠0):td s l H (.tuple #[.slice none 0 0,.int .i64 k]):=
 ⟨fun _=>by rw[he],fun i hi hs e hle hlen=>absurd (vQ (l:=l) (n:=s.d) (mZ.2 ⟨i,hi,hs⟩) (by rw[hle,dX,hlen,hs];rfl) (by rw[hle];exact gj (f:=F1) e)) byO⟩
section
variable {lo:Nat}{H:Heap}
open XYf
set_option maxHeartbeats 2000000 in
theorem Se{s:Sz}{l:List Int}(hl:SlI H v l)(hll:l.length<=1000000000)(hlo:lo<=H.length):Ev cp lo 14 [v,s.val] H (fun r H'=>Ext H H'/\td s l H' r):=by
 have hl0:=hl;obtain⟨ad,c,rfl⟩:=hl.len;refine stG rfl rfl ?_;unfold Pw;simp only[kB,aD];refine aA ?_;generalize hG:H++_=G at *;obtain⟨g0,hxG⟩:=dk hG;clear hG;have hlG:=hxG.1;refine aT ?_;refine aC (Pe (s:=s) byO) ?_;rintro r H1 ⟨hx1,rfl⟩;have g0:=hx1.get g0;have hx1:=hxG.trans hx1;have hl1:=hx1.1;by_cases hs:s ∈ szs
 case neg=>
  have hg:td s l H1 (.tuple #[.slice none 0 0,.int .i64 14]):=uf (if_pos hs) (by decide);rw[decide_eq_false hs];refine aA ?_;refine aP ?_ ?_<;>intro h
  case refine_2=>simp at h
  clear h;refine aA ?_;refine aK ?_;exact⟨hx1,hg⟩
 rw[decide_eq_true hs];refine aA ?_;refine an ?_;obtain⟨i0,hi0,hs0⟩:=mZ.1 hs;have hck:jt s l s.d=if (l.length:Int)≠s.d then 7 else if inF 256 l=true then 0 else 3:=if_neg (fun h=>h hs)
 subst hs0;have hgE:∀{k:Int} {H':Heap},jt (dz i0).sz l (dz i0).sz.d=k->k≠0->td (dz i0).sz l H' (.tuple #[.slice none 0 0,.int .i64 k]):=fun h1 h2=>uf h1 h2;have hgG:jt (dz i0).sz l (dz i0).sz.d=0->∀{e:List (El F1)},l=en e->∀{H':Heap} {vo:Value},SlI H' vo (ilv (dz i0).n ((dz i0).W e) ((dz i0).d+(dz i0).c))->td (dz i0).sz l H' (.tuple #[vo,.int .i64 0]):=by
  intro he e hle H' vo hh;refine⟨fun h=>absurd he h,fun i hi hs e2 hle2 hlen2=>?_⟩
  grind[CQ,List.map_inj_right,El.ext,en]
 have hcode:=fun {H:Heap} {lo:Nat} (h:lo<=H.length)=>RD (H:=H) hi0 h;have hz:=uA hi0;have hd0:(dz i0).sz.d=(((dz i0).d:Nat):Int):=rfl;rw[hd0]at hck hgE hgG;clear hs hd0;generalize dz i0=zz at *;have n1:=hz.n1;have n2:=hz.n2;have dn:=hz.dn;have d2:=hz.d2;have c2:=hz.c2;have k1:=hz.k1;have k2:=hz.k2;unfold Dz.sz Sz.val at *;simp only[Sz.cells]at *;generalize jt _ l _=ec at *;(try simp only[aD]);by_cases hlz:l.length=zz.d
 case neg=>
  rw[if_pos byO]at hck;have hg:=hgE (H':=H1) hck (by decide);clear hgE hgG hcode hck;refine aP ?_ ?_<;>intro h
  case refine_2=>grind
  clear h;refine aA ?_;refine aK ?_;exact⟨hx1,hg⟩
 rw[if_neg byO]at hck;replace hlz:False\/_:=.inr hlz;have hlz2:l.length<=zz.d/\zz.d<=l.length:=by simp_all
 refine aP ?_ ?_<;>intro h
 ·simp_all
 clear h;refine bF ?_;refine aC (NN (hl0.mono hx1) hll) ?_;rintro r _ ⟨rfl,rfl⟩;by_cases hin:inF 256 l=true
 case neg=>
  rw[if_neg hin]at hck;have hg:=hgE (H':=H1) hck (by decide);rw[Bool.not_eq_true]at hin;rw[hin];clear hgE hgG hcode hck;refine aA ?_;refine aP ?_ ?_<;>intro h
  case refine_2=>simp at h
  clear h;refine aA ?_;refine aK ?_;exact⟨hx1,hg⟩
 rw[if_pos hin]at hck;obtain⟨e,hle⟩:=MJ (f:=F1) hin;replace hle:l=en e:=hle;have hgG:=@hgG hck e hle;rw[hin];clear hgE hck hin;replace hle:False\/_:=.inr hle;have hel:e.length=zz.d:=by grind[dX]
 replace hel:False\/_:=.inr hel;have hca:∀x,x<zz.n->cnt (zz.d+zz.c) zz.n x=cnt zz.d zz.n x+zz.ck/\0<cnt zz.d zz.n x/\cnt zz.d zz.n x+zz.ck<=250:=fun x hx=>BD hz hx;have hq0:=Heap.get_lt g0;refine aA ?_;refine an ?_;refine aA ?_;refine aS (fun x S H'=>Ext H1 H'/\∃vo bo D vu bu,Own H1.length 1 H' vo bo D/\Own H1.length 1 H' vu bu (aW (List.replicate x 0))/\ur D=true/\D.length=x/\(x=0\/(bu<H'.length/\bo<H'.length/\bo≠bu))/\(∀y,y<x->IsEnc g1 zz.ck 1 (fO e 0 zz.n y) (zz.W e y)/\SlE H' (D.getD y nl) (zz.W e y)/\qu bu (D.getD y nl))/\∃(z:Nat->Value),S=[.slice ad l.length c,z 1,.pointer (some ⟨H.length,0,none⟩),z 3,z 4,vo,vu,.int .i64 (x:Nat),z 8,z 9,z 10,z 11,z 12,z 13,z 14,z 15,z 16,z 17,z 18,z 19,z 20,z 21,z 22,z 23,z 24,z 25,z 26,z 27,z 28]) zz.n ?_ ?_ ?_ ?_
 ·exact⟨Ext.refl _,_,_,[],_,_,Own.nil (b:=H1.length) (Nat.le_refl _),Own.nil (b:=H1.length) (Nat.le_refl _),rfl,rfl,.inl rfl,byO,aH rfl⟩
 ·rintro x S H' hx ⟨hx2,vo,bo,D,vu,bu,-,-,-,-,-,-,z,rfl⟩
  have g0:=hx2.get g0;exact⟨_,aN,by simp⟩
 ·rintro x S H2 hx ⟨hx2,vo,bo,D,vu,bu,oo,ou,sD,lD,hne,hC,z,rfl⟩
  obtain⟨ca,cb,cc⟩:=hca x hx;have g0:=hx2.get g0;have hx02:=hx1.trans hx2;have hl2:=hx02.1;have hl12:=hx2.1;have hsl:=hl0.mono hx02;refine aA ?_;refine aT ?_;refine bS (hcode (Nat.le_refl _)) ?_;rintro r H3 ⟨hx3,rfl⟩;have g0:=hx3.get g0;have hsl:=hsl.mono hx3;have hq3:=hx3.1;refine bF ?_;refine eF (first:=#[]) (cap:=#[]) (args:=[.slice ad l.length c,.int .i64 (x:Nat),.int .i64 (zz.n:Nat)]) (NL (n:=zz.n) (x:=x) hsl hll hx byO byO) ?_;rintro r H4 ⟨hx4,hr⟩;rw[hle.resolve_left id,yw]at hr;have hr:SlE H4 r (fO e 0 zz.n x):=CJ hr;have hsd:(fO e 0 zz.n x).length=cnt zz.d zz.n x:=by grind[jN]
  have hq4:=hx4.1;refine bF ?_;refine eF (first:=#[]) (cap:=#[]) (args:=[cdV (fB 301) zz.ck 1,r]) (FE (f:=F1) (g:=g1) (d:=fO e 0 zz.n x) byO F4 (BA byO byO) hr byO) ?_;rintro r2 H5 ⟨hx5,⟨-,-,vw,w,rfl,hvw,hnew,hie⟩|⟨hno,-⟩⟩
  case inr=>exact absurd ⟨byO,by show _<256;omega⟩ hno
  obtain rfl:w=zz.W e x:=BN (BA byO byO) hie;have hwl:=hie.len;rw[hsd]at hwl;have hq5:=hx5.1;have hx25:=(hx3.trans hx4).trans hx5;have oo:=oo.mono hx25;have ou:=ou.mono hx25;have hC:∀y,y<x->IsEnc g1 zz.ck 1 (fO e 0 zz.n y) (zz.W e y)/\SlE H5 (D.getD y nl) (zz.W e y)/\qu bu (D.getD y nl):=fun y hy=>⟨(hC y hy).1,(hC y hy).2.1.mono hx25,(hC y hy).2.2⟩;have hvs:=KM hvw;obtain⟨aw,cw,ew⟩:=hvw.len;replace hsd:False\/_:=.inr hsd;clear hr;subst ew;refine aA ?_;refine aT ?_;refine Ag (b:=bo) (D:=D) (base:=H1.length) (oo.mono (Ext.app _ _)) byO (by simp;omega) rfl aF byO ?_;intro vo' H6 b' oo' hk6 hb' hl6;have hxa:=Ext.app H5 [some [Value.slice aw (cnt zz.d zz.n x+zz.ck) cw]];have hla:(H5++[some [Value.slice aw (cnt zz.d zz.n x+zz.ck) cw]]).length=H5.length+1:=by simp
  rw[hla]at oo' hb' hl6;have hvw:SlE H5 (.slice aw (cnt zz.d zz.n x+zz.ck) cw) (zz.W e x):=by simp_all
  have hnew:NewV H4.length (.slice aw (cnt zz.d zz.n x+zz.ck) cw):=by simp_all
  have hb'':H1.length<=b':=by
   rcases hb' with h|h
   ·omega
   ·rw[h.1];exact oo.1
  have hx6:Ext H1 H6:=hk6.ext ((hx2.trans hx25).trans hxa) hb'';have hE:∀y,y<x+1->IsEnc g1 zz.ck 1 (fO e 0 zz.n y) (zz.W e y)/\SlE H6 ((D++[Value.slice aw (cnt zz.d zz.n x+zz.ck) cw]).getD y nl) (zz.W e y):=fun y hy=>by
   have hmv:∀{v:Value} {l:List (El F1)},0<l.length->SlE H5 v l->SlE H6 v l:=fun hl h=>HO hk6 (hb'.imp (fun h=>by omega) And.right) sD (fun _=>rfl) hl (h.mono hxa);by_cases hyx:y<x
   ·rw[vW byO]
    refine⟨(hC y hyx).1,hmv ?_ (hC y hyx).2.1⟩;rw[(hC y hyx).1.len];omega
   grind
  have key:∃bu',Own H1.length 1 H6 vu bu' (aW (List.replicate x 0))/\bu'≠H5.length+1/\∀y,y<x+1->qu bu' ((D++[Value.slice aw (cnt zz.d zz.n x+zz.ck) cw]).getD y nl):=by
   rcases hne with h0|⟨n3,n4,n5⟩
   ·obtain⟨hb,⟨rfl,_⟩|⟨k,hk,h1,_⟩⟩:=ou
    ·refine⟨H6.length,?_,byO,fun y hy=>Sl.notAt (hE y hy).2 (Nat.le_refl _)⟩
     grind[Own.nil]
    grind[aW]
   ·refine⟨bu,(ou.mono hxa).keep hk6 ?_,byO,fun y hy=>?_⟩
    all_goals grind[NewV.notAt]
  obtain⟨bu',ou',n3,hN⟩:=key;have hub:=ou'.1;replace hl6:H5.length+2<=H6.length/\H6.length<=H5.length+2:=byO;clear hC hne ou oo hvw hnew hb' hk6 hie hwl hla;refine aA ?_;refine aT ?_;refine di (b:=bu') (cells:=aW (List.replicate x 0)) (c':=[.int .i64 0]) (c:=[.int .i64 0]) ((ou'.mono (Ext.app _ _)).lower byO) (by simp;omega) byO byO (by grind[eE]) aF (by simp) rfl rfl ?_;rw[show aW (List.replicate x 0)++[Value.int .i64 0]=aW (List.replicate (x+1) 0) by rw[List.replicate_succ',jE];rfl];intro vu' H7 ou7 hk7 hl7;replace hl7:H7.length=H6.length+2:=by simp_all
  have hxb:=Ext.app H6 [some [Value.int .i64 0]];have hx7:=hk7.ext (hx6.trans hxb) hub;have oo7:=(oo'.mono hxb).keep hk7 (fun h=>n3 h.symm);have ou7:Own H1.length 1 H7 vu' (H6.length+1) (aW (List.replicate (x+1) 0)):=⟨byO,by simpa using ou7.2⟩;have hE7:∀y,y<x+1->IsEnc g1 zz.ck 1 (fO e 0 zz.n y) (zz.W e y)/\SlE H7 ((D++[Value.slice aw (cnt zz.d zz.n x+zz.ck) cw]).getD y nl) (zz.W e y)/\qu (H6.length+1) ((D++[Value.slice aw (cnt zz.d zz.n x+zz.ck) cw]).getD y nl):=fun y hy=>⟨(hE y hy).1,Sl.off ((hE y hy).2.mono hxb) hk7 (hN y hy),Sl.notAt (hE y hy).2 byO⟩;replace hl7:H6.length+2<=H7.length:=byO;clear hE hN ou' oo' hk7;refine aA ?_;exact⟨hx7,vo',_,_,vu',_,oo7,ou7,Ah sD rfl,by simp[lD],.inr ⟨byO,byO,byO⟩,hE7,aH ncM⟩
 ·rintro S H2 ⟨hx2,vo,bo,D,vu,bu,oo,ou,sD,lD,hne,hC,z,rfl⟩
  obtain⟨n3,n4,n5⟩:=hne.resolve_left byO;have hub:=ou.1;obtain⟨rfl,gu⟩:=DT ou (by grind);simp only[List.length_replicate];obtain⟨kD,hkD,gD⟩:∃k,k=D.length/\vo=.slice (some ⟨bo,0,some 1⟩) k k/\H2.get bo=some D:=by
   obtain⟨_,⟨_,h⟩|⟨k,_,h1,h2,h3⟩⟩:=oo
   all_goals grind
  obtain⟨rfl,gD⟩:=gD;rw[lD]at hkD;subst hkD;rw[<-TX zz.n byO]at gu;obtain⟨T,hTT⟩:∃T:Nat,zz.d+zz.c=T:=⟨_,rfl⟩;rw[hTT]at hgG hca;have hTi:(zz.d:Int)+(zz.c:Int)=((T:Nat):Int):=byO;have hT2:T<=2178:=byO;clear hTT oo ou hne;have g0:=hx2.get g0;have hx02:=hx1.trans hx2;refine aA ?_;refine aS (fun i S H'=>Keep bu H2 H'/\Heap.get H' bu=some (aW (usL zz.n i))/\∃vq bq,Own H2.length 1 H' vq bq (aW ((ilv zz.n (zz.W e) T).take i))/\∃(z:Nat->Value),S=[z 0,z 1,.pointer (some ⟨H.length,0,none⟩),z 3,z 4,.slice (some ⟨bo,0,some 1⟩) zz.n zz.n,.slice (some ⟨bu,0,some 1⟩) zz.n zz.n,z 7,z 8,vq,.int .i64 (i:Nat),z 11,z 12,z 13,z 14,z 15,z 16,z 17,z 18,z 19,z 20,z 21,z 22,z 23,z 24,z 25,z 26,z 27,z 28]) T ?_ ?_ ?_ ?_
  ·exact⟨lT (Ext.refl _),gu,_,_,by rw[List.take_zero];exact Own.nil (Nat.le_refl _),aH rfl⟩
  ·rintro i S H' hi ⟨q1,-,vq,bq,-,z,rfl⟩
   have g0:=q1.get g0 byO;exact⟨_,aN,by simp⟩
  ·clear gu
   rintro i S H3 hi ⟨q1,gu,vq,bq,oq,z,rfl⟩;have g0:=q1.get g0 byO;have gD:=q1.get gD n5;have hX:i%zz.n<zz.n:=Nat.mod_lt _ byO;have q2:((i:Nat):Int).tmod (zz.n:Int)=((i%zz.n:Nat):Int):=(Int.ofNat_tmod i zz.n).symm;obtain⟨hie,hsx,hna⟩:=hC (i%zz.n) hX;obtain⟨ca,cb,cc⟩:=hca _ hX;have hwl:=hie.len;rw[jN,hel.resolve_left id]at hwl;have hY:=rQ (N:=T) (n:=zz.n) (j:=i) byO hi;obtain⟨yb,yo,ysp,yc,ys,ey,gy,fy,_⟩:=gV (Sl.off hsx q1 hna) byO;have hvX:=T4 (vs:=D) (i:=i%zz.n) byO;rw[ey]at hvX;have fyk:=fy (i/zz.n) byO;have hua:=Pd (n:=zz.n) (i:=i) byO;have hus:=He (n:=zz.n) (i:=i) byO;have hul:=KU zz.n i;have hnx:=Dd (l:=ilv zz.n (zz.W e) T) (i:=i) (0:Int) (by grind[qk]);rw[Nk hi]at hnx;rw[hnx];have htk:((ilv zz.n (zz.W e) T).take i).length<=4000:=by grind
   have hwl2:(zz.W e (i%zz.n)).length<=250/\i/zz.n<(zz.W e (i%zz.n)).length:=byO;have hqu:=Heap.get_lt gu;have hqD:=Heap.get_lt gD;have hqy:=Heap.get_lt gy;have hq1:=q1.len;clear fy hie hsx hna hwl hnx ey hC hca hY ca cb cc;generalize (co (zz.W e (i%zz.n)) (i/zz.n)).val=c1 at *;generalize (zz.W e (i%zz.n)).length=wlen at *;generalize usL zz.n (i+1)=us2 at *;generalize usL zz.n i=us1 at *;generalize i%zz.n=X at *;generalize i/zz.n=Y at *;generalize (ilv zz.n (zz.W e) T).take i=tk at *;have hob:=oq.1;refine aA ?_;refine aT ?_;refine di (b:=bq) (cells:=aW tk) (c':=[.int .i64 (c1:Nat)]) (c:=[.int .i64 (c1:Nat)]) ((oq.mono (Ext.app _ _)).lower byO) (by simp;omega) byO byO (by grind[eE]) aF (by simp) rfl rfl ?_;rw[show aW tk++[Value.int .i64 (c1:Nat)]=aW (tk++[((c1:Nat):Int)]) by rw[jE];rfl];intro vq' H4 oq' hk4 hl4;replace hl4:H4.length=H3.length+2:=by simp_all
   have hxb:=Ext.app H3 [some [Value.int .i64 (c1:Nat)]];have k4:=Fo (kg q1 (lT hxb)) hk4 hob;have gu4:=hk4.get (hxb.get gu) byO;have oq4:Own H2.length 1 H4 vq' (H3.length+1) (aW (tk++[((c1:Nat):Int)])):=⟨byO,by simpa using oq'.2⟩;replace hl4:H3.length+2<=H4.length:=byO;clear oq oq' hk4 gu gy gD g0 fyk hvX;refine aA ?_;refine⟨uS k4 _,by grind[aG],vq',_,oq4.keep (yD (Ext.refl _) bu _) byO,aH ncM⟩
  ·clear gu
   rintro S H3 ⟨q1,-,vq,bq,oq,z,rfl⟩;rw[List.take_of_length_le (by grind[qk])]at oq;have hfin:=hgG (Sl.ofOwn oq);have hxf:=q1.ext hx02 byO;clear hgG hca hC;refine aA ?_;refine aK ?_;exact⟨hxf,hfin⟩
end
open Go.Abs
section
variable {α:Type}{enc:α->List Value}{n:Nat}
def cat(enc:α->List Value):List α->List Value
 | []=>[]
 | x::l=>enc x++cat enc l
theorem kS(h:∀x,(enc x).length=n):∀l:List α,(cat enc l).length=l.length*n
 | []=>by simp[cat]
 | x::l=>by rw[cat,as₀,h,kS h l,ak₀,Nat.succ_mul];omega
theorem jS:∀a b:List α,cat enc (a++b)=cat enc a++cat enc b
 | [],b=>rfl
 | x::a,b=>by simp only[am₀,cat,jS a b,ba₀]
theorem E0(h:∀x,(enc x).length=n):∀(l:List α) (k:Nat) (hk:k<l.length),((cat enc l).drop (k*n)).take n=enc l[k]
 | x::l,0,hk=>by
  rw[Nat.zero_mul,List.drop_zero,cat,List.take_append_of_le_length (by rw[h];exact Nat.le_refl _),List.take_of_length_le (by rw[h];exact Nat.le_refl _)];rfl
 | x::l,k+1,hk=>by
  have e:(k+1)*n=(enc x).length+k*n:=by rw[h,Nat.succ_mul];omega
  rw[e,<-List.drop_drop,cat,List.drop_left];exact E0 h l k (by simpa using hk)
def OwnG(lo n:Nat)(H:Heap)(v:Value)(b:Nat)(X:List Value):Prop:=
 Own lo n H v b X\/(lo<=b/\∃k,0<k/\k*n=X.length/\v=.slice (some ⟨b,0,none⟩) k k/\H.get b=some X)
theorem OwnG.mono{lo n b:Nat}{H H':Heap}{v:Value}{X:List Value}(h:OwnG lo n H v b X)(e:Ext H H'):OwnG lo n H' v b X:=by
 rcases h with h|⟨h1,k,h2,h3,h4,h5⟩
 ·exact .inl (h.mono e)
 ·exact .inr ⟨h1,k,h2,h3,h4,e.get h5⟩
theorem OwnG.nil{lo n b:Nat}{H:Heap}(h:lo<=b):OwnG lo n H (.slice none 0 0) b []:=.inl (Own.nil h)
theorem OwnG.len{lo b:Nat}{H:Heap}{v:Value}{L:List α}(hn:0<n)(he:∀x,(enc x).length=n)(h:OwnG lo n H v b (cat enc L)):∃a,v=.slice a L.length L.length:=by
 have e:=kS he L;have key:∀k,k*n=(cat enc L).length->k=L.length:=fun k hk=>Nat.eq_of_mul_eq_mul_right hn (hk.trans e);rcases h with h|⟨_,k,_,hk,rfl,_⟩
 ·obtain⟨a,k,rfl,hk,_⟩:=h.len hn
  rw[key k hk];exact⟨_,rfl⟩
 ·rw[key k hk];exact⟨_,rfl⟩
theorem OwnG.at{lo b:Nat}{H:Heap}{v:Value}{L:List α}(hn:0<n)(he:∀x,(enc x).length=n)(h:OwnG lo n H v b (cat enc L)){k:Nat}(hk:k<L.length) :
  ∃p o X,aJ (.iAddr n) [v,.int .i64 (k:Nat)] H=some (.pointer (some ⟨p,o,none⟩))/\H.get p=some X/\o+n<=X.length/\(X.drop o).take n=enc L[k]:=by
 have hx:=E0 he L k hk;have hl:=kS he L;have hle:k*n+n<=L.length*n:=by rw[<-Nat.succ_mul];exact Nat.mul_le_mul_right _ hk
 obtain⟨a,e⟩:=h.len hn he;have key:∀sp,v=.slice (some ⟨b,0,sp⟩) L.length L.length->H.get b=some (cat enc L)->∃p o X,aJ (.iAddr n) [v,.int .i64 (k:Nat)] H=some (.pointer (some ⟨p,o,none⟩))/\H.get p=some X/\o+n<=X.length/\(X.drop o).take n=enc L[k]:=by
  rintro sp rfl hg;refine⟨b,0+k*n,_,?_,hg,byO,by rw[Nat.zero_add];exact hx⟩;rw[lV byO byO];simp
 rcases h with ⟨_,⟨_,h⟩|⟨m,_,_,h3,h4⟩⟩|⟨_,m,_,_,h3,h4⟩
 ·have:=Nat.mul_pos (show 0<L.length by omega) hn
  rw[h,an₀]at hl;omega
 ·rw[h3]at e;cases e
  exact key _ h3 h4
 ·rw[h3]at e;cases e
  exact key _ h3 h4
theorem Mp{cp:FuncId->Option CF}{lo:Nat}{z:List Value}{G H:Heap}{b t:Nat}{sp:Option Nat}{m:Nat}{L:List α}{r:α}{R:Value->Heap->Prop}(hn:0<n)(hn2:n<=100)(he:∀x,(enc x).length=n)(h1:∀x,oneCells (enc x)=true)(ho:OwnG lo n H v b (cat enc L))(hx:Ext G H)(hG:G.length<=b)(hlo:lo<=G.length)(hbig:L.length<=10000000)(ht:H.get t=some (enc r))
  (k:∀v' b' H',OwnG lo n H' v' b' (cat enc (L++[r]))->Ext G H'->G.length<=b'->H.length<=H'.length->R v' H'):wpH cp lo (.app n z) [v,.slice (some ⟨t,0,sp⟩) 1 m] H R:=by
 have hGl:=hx.1;have hcl:=kS he L;have hcb:(cat enc L).length<=1000000000:=by
  rw[hcl];exact Nat.le_trans (Nat.mul_le_mul hbig hn2) (by decide)
 have hl1:(enc r).length=n:=he r;rcases ho with ho|⟨hb,q,hq0,hq,rfl,hg⟩
 ·refine di ho byO hn byO byO ht byO (c:=enc r) (by rw[List.drop_zero,List.take_of_length_le byO]) (h1 r) ?_
  intro v' H' ho' hk hl';refine k v' H.length H' (.inl ?_) (hk.ext hx hG) hGl byO;rw[jS];simpa[cat]using ho'
 ·have e1:H.cells t 0 (1*n)=some (enc r):=by rw[cells_get ht byO,List.drop_zero,List.take_of_length_le byO]
  have e2:H.cells b 0 (q*n)=some (cat enc L):=by rw[cells_get hg byO,List.drop_zero,List.take_of_length_le byO]
  have hq1:q<=(cat enc L).length:=by rw[<-hq];exact Nat.le_mul_of_pos_right q hn
  simp only[wpH,cK,hsem,e1,ao₀,h1 r,if_true,aZ];rw[if_neg byO,if_neg (by show ¬ br<_;unfold br;omega),e2];simp only[Option.map_some];refine k _ H.length _ (.inl ⟨byO,.inr ⟨q+1,byO,?_,rfl,?_⟩⟩) (hx.trans (Ext.app _ _)) hGl (by simp)
  ·rw[jS,as₀,<-hq,Nat.succ_mul];simp[cat,hl1]
  ·rw[aF,jS];simp[cat]
end
abbrev ptr(b:Nat):Value:=.pointer (some ⟨b,0,none⟩)
structure Opt where
 h0:Nat
 h1:Nat
 h2:Nat
 sz:Nat
 run:Nat
 nx:Nat
 md:Nat
def aQ(o:Opt):List Value:=[aB o.h0,aB o.h1,aB o.h2,aB o.sz,aB o.run,aB o.nx,aB o.md]
abbrev AS(o:Opt):Value:=.agg #[aB o.h0,aB o.h1,aB o.h2,aB o.sz,aB o.run,aB o.nx,aB o.md]
theorem gm(o:Opt):(aQ o).length=7:=rfl
theorem yU(o:Opt):oneCells (aQ o)=true:=rfl
structure SrH (H:Heap)(sb cb:Nat)(v:Value)(p:List UInt8)(cs:List Nat):Prop where
 g:H.get sb=some [v,.slice (some ⟨cb,0,none⟩) (p.length+1) (p.length+1)]
 c:H.get cb=some (uN cs)
 pl:SlU H v p
 len:cs.length=(p.length+1)*19
 hi:p.length<=4096
 le:∀i,cs.getD i 0<=1073741824
theorem SrH.ext{H H':Heap}{sb cb:Nat}{v:Value}{p:List UInt8}{cs:List Nat}(h:SrH H sb cb v p cs)(e:Ext H H'):SrH H' sb cb v p cs:=
 ⟨e.get h.g,e.get h.c,h.pl.mono e,h.len,h.hi,h.le⟩
theorem nC{cs:List Nat}{k:Nat}(h:k<cs.length):(uN cs)[k]?=some (aB (cs.getD k 0)):=by
 simp[uN,au₀,h]
def bP(cs:List Nat)(o:Opt):Nat:=o.sz+o.run+cs.getD (o.nx*19+o.md) 0
section
variable {lo:Nat}{H:Heap}{sb cb:Nat}{v:Value}{p:List UInt8}{cs:List Nat}
open XYe
theorem UZ{o:Opt}(h1:o.sz<=10)(h2:o.run<=10000):Ev cp lo 198 [AS o] H (fun r H'=>Ext H H'/\r=aB (o.sz+o.run)):=by
 refine stG rfl rfl ?_;unfold Lc;simp only[kB,aD];refine aA ?_;refine aK ?_;exact⟨Ext.app _ _,rfl⟩
theorem VT{o:Opt}(hs:SrH H sb cb v p cs)(h1:o.sz<=10)(h2:o.run<=10000)(h3:o.nx<=p.length)(h4:o.md<19):Ev cp lo 177 [ptr sb,AS o] H (fun r H'=>Ext H H'/\r=aB (bP cs o)):=by
 have hg:=hs.g;have hc:=hs.c;have hlen:=hs.len;have hle:=hs.le (o.nx*19+o.md);have hk:o.nx*19+o.md<cs.length:=byO;have hat:=nC hk;have hsl:=Heap.get_lt hg;have hcl:=Heap.get_lt hc;have hul:(uN cs).length=cs.length:=by simp
 unfold bP;generalize cs.getD (o.nx*19+o.md) 0=w at hat hle;generalize uN cs=X at hc hat hul;replace hul:X.length<=cs.length/\cs.length<=X.length:=byO;replace hlen:cs.length<=(p.length+1)*19/\(p.length+1)*19<=cs.length:=byO;refine stG rfl rfl ?_;unfold LV;simp only[kB,aD];refine aA ?_;refine aT ?_;refine bS (UZ h1 h2) ?_;rintro r H1 ⟨hx1,rfl⟩;refine aA ?_;refine aK ?_;exact⟨(Ext.app _ _).trans hx1,rfl⟩
end
theorem mO{a:Nat}:BitVec.ofInt 64 ((a:Nat):Int)=BitVec.ofNat 64 a:=BitVec.ofInt_natCast 64 a
theorem CY{a:Nat}(h:a<9223372036854775808):IntKind.i64.wrap (a:Int)=(a:Int):=kM byO byO
theorem vB{a b:Nat}(ha:a<2^63)(hb:b<2^63):IntKind.i64.wrap ((BitVec.ofInt IntKind.i64.bits (a:Int) &&& BitVec.ofInt IntKind.i64.bits (b:Int)).toNat:Int)=((a &&& b:Nat):Int):=by
 have e:(BitVec.ofInt IntKind.i64.bits (a:Int) &&& BitVec.ofInt IntKind.i64.bits (b:Int)).toNat=a &&& b:=by
  show(BitVec.ofInt 64 (a:Int) &&& BitVec.ofInt 64 (b:Int)).toNat=a &&& b;rw[mO,mO,BitVec.toNat_and,BitVec.toNat_ofNat,BitVec.toNat_ofNat,Nat.mod_eq_of_lt byO,Nat.mod_eq_of_lt byO]
 rw[e];refine CY ?_;exact Nat.lt_of_le_of_lt Nat.and_le_left ha
theorem G3{a b:Nat}(ha:a<2^62)(hb:b<2^62):IntKind.i64.wrap ((BitVec.ofInt IntKind.i64.bits (a:Int) ||| BitVec.ofInt IntKind.i64.bits (b:Int)).toNat:Int)=((a ||| b:Nat):Int):=by
 have e:(BitVec.ofInt IntKind.i64.bits (a:Int) ||| BitVec.ofInt IntKind.i64.bits (b:Int)).toNat=a ||| b:=by
  show(BitVec.ofInt 64 (a:Int) ||| BitVec.ofInt 64 (b:Int)).toNat=a ||| b;rw[mO,mO,BitVec.toNat_or,BitVec.toNat_ofNat,BitVec.toNat_ofNat,Nat.mod_eq_of_lt byO,Nat.mod_eq_of_lt byO]
 rw[e];refine CY ?_;have:=Nat.or_lt_two_pow ha hb;omega
theorem Mn(a:Nat):a &&& 255=a%256:=Nat.and_two_pow_sub_one_eq_mod a 8
theorem Pu(a:Nat):a &&& 63=a%64:=Nat.and_two_pow_sub_one_eq_mod a 6
theorem Lu{a b:Nat}(k:Nat)(hb:b=2^k)(hk:k<=64):(a:Int).fdiv (2^(min ((k:Nat):Int).toNat IntKind.i64.bits))=((a/b:Nat):Int):=by
 subst hb;have e:min ((k:Nat):Int).toNat IntKind.i64.bits=k:=by
  show min ((k:Nat):Int).toNat 64=k;simp;omega
 rw[e,Int.fdiv_eq_ediv_of_nonneg _ (by exact Int.le_of_lt (Int.pow_pos (by decide)))];simp
def jh(u v w at' md:Nat):Opt:=⟨(1600*u+40*v+w+1)/256,(1600*u+40*v+w+1)%256,0,2,0,at',md⟩
def fu(g n at' md:Nat):Opt:=⟨g*2^(6*(4-n))/65536,g*2^(6*(4-n))/256%256,g*2^(6*(4-n))%256,(6*n+7)/8,0,at',md⟩
section
variable {lo:Nat}{H:Heap}
open XYe
theorem TV{u v w a m:Nat}(hu:u<=100)(hv:v<=100)(hw:w<=100)(ha:a<=10000)(hm:m<=100)(hlo:lo<=H.length):Ev cp lo 208 [aB u,aB v,aB w,aB a,aB m] H (fun r H'=>Ext H H'/\r=AS (jh u v w a m)):=by
 have e:1600*(u:Int)+40*(v:Int)+(w:Int)+1=((1600*u+40*v+w+1:Nat):Int):=byO;have hb:1600*u+40*v+w+1<=1000000:=byO;unfold jh;generalize 1600*u+40*v+w+1=n at e hb;have ed:(n:Int).tdiv 256=((n/256:Nat):Int):=by rw[Int.tdiv_eq_ediv_of_nonneg byO];omega
 have em:(n:Int).tmod 256=((n%256:Nat):Int):=by rw[Int.tmod_eq_emod_of_nonneg byO];omega
 have h0:(0:Nat)<=5:=byO;refine stG rfl rfl ?_;unfold Lj;simp only[kB,aD];refine Td ?_;refine Te ?_;exact⟨Ext.app _ _,rfl⟩
theorem Qx{g n a m:Nat}(hn:1<=n/\n<=4)(hg:g<2^(6*n))(ha:a<=10000)(hm:m<=100)(hlo:lo<=H.length):Ev cp lo 210 [aB g,aB n,aB a,aB m] H (fun r H'=>Ext H H'/\r=AS (fu g n a m)):=by
 have hG:g*2^(6*(4-n))<16777216:=by
  have:(16777216:Nat)=2^(6*n)*2^(6*(4-n)):=by rw[<-Nat.pow_add,show 6*n+6*(4-n)=24 by omega]
  rw[this];exact Nat.mul_lt_mul_of_pos_right hg (Nat.pow_pos (by decide))
 have hsh:IntKind.i64.wrap ((g:Int)*2^(min (6*(4-(n:Int))).toNat IntKind.i64.bits))=((g*2^(6*(4-n)):Nat):Int):=by
  have e:min (6*(4-(n:Int))).toNat IntKind.i64.bits=6*(4-n):=by
   show min (6*(4-(n:Int))).toNat 64=6*(4-n);omega
  rw[e];have e2:(g:Int)*2^(6*(4-n))=((g*2^(6*(4-n)):Nat):Int):=by simp
  rw[e2];exact CY byO
 unfold fu;generalize g*2^(6*(4-n))=G at hG hsh;have h16:=Lu (a:=G) (b:=65536) 16 rfl byO;have h8:=Lu (a:=G) (b:=256) 8 rfl byO;have ha1:=vB (a:=G/256) (b:=255) byO byO;have ha2:=vB (a:=G) (b:=255) byO byO;rw[Mn]at ha1 ha2;have ed:(6*(n:Int)+7).tdiv 8=(((6*n+7)/8:Nat):Int):=by rw[Int.tdiv_eq_ediv_of_nonneg byO];omega
 simp only[Int.cast_ofNat_Int]at h16 h8 ha1 ha2;refine stG rfl rfl ?_;unfold Lk;simp only[kB,aD];refine Td ?_;refine Te ?_;exact⟨Ext.app _ _,rfl⟩
end
end Go.Proofs.YtmnlgdpdgjbfgaaGreat
