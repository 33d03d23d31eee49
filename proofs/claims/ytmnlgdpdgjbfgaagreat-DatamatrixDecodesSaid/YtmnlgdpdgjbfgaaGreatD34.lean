/- Lemmas. -/
import Derived.Test.YtmnlgdpdgjbfgaaGreatD19
import Derived.Test.YtmnlgdpdgjbfgaaGreatD32
import Derived.Test.YtmnlgdpdgjbfgaaGreatD33
set_option linter.all false
namespace Go.Proofs.YtmnlgdpdgjbfgaaGreat
open Go.Abs Go.RS
variable{H:Heap}{v:Value}{n:Nat}
set_option maxRecDepth 20000
theorem Dr{cp:FuncId->Option CF}{lo base:Nat}{z:List Value}{v w:Value}{b:Nat}{A l:List Int}{R:Value->Heap->Prop}(ho:Own base 1 H v b (bN A))(hlo:lo<=base)(hbl:base<=H.length)(hl:SlI H w l)(hne:0<l.length)(hbig:A.length+l.length<=4294967296)
  (k:∀v' H',Own base 1 H' v' H.length (bN (A++l))->Keep b H H'->H'.length=H.length+1->R v' H'):wpH cp lo (.app 1 z) [v,w] H R:=by
 rcases hl with ⟨rfl,rfl⟩|⟨b',o,sp,cap,xs,rfl,h2,h3,h4,h5⟩
 ·simp at hne
 ·refine dG (b:=b) (cells:=bN A) (c:=bN l) (ho.lower hlo) byO byO hne (by rw[gT];omega) h2 byO (by rw[Nat.mul_one,h3];rfl) (sW l) ?_
  intro v' H' a1 a2 a3;refine k v' H' ⟨hbl,?_⟩ a2 a3;rw[kj];exact a1.2
theorem BD{lo:Nat}{b:Nat}{l:List Int}(h:Own lo 1 H v b (bN l))(hl:0<l.length):v=.slice (some ⟨b,0,some 1⟩) l.length l.length/\H.get b=some (bN l):=by
 obtain⟨_,⟨_,h⟩|⟨n,_,h1,rfl,h2⟩⟩:=h
 ·have:=congrArg List.length h;rw[gT]at this;simp only[an₀]at this;omega
 ·rw[gT,Nat.mul_one]at h1
  subst h1;exact⟨rfl,h2⟩
theorem HS{α:Type}{enc:α->Value}{l:List α}{k:Nat}(h:Sl enc H v l)(hk:k<=l.length):∃v',(∀H',aJ (.sl 1 false true false) [v,.int .i64 (k:Nat)] H'=some v')/\Sl enc H v' (l.take k):=by
 rcases h with ⟨rfl,rfl⟩|⟨b,o,sp,cap,xs,rfl,h2,h3,h4,h5,h6⟩
 ·have:k=0:=by simpa using hk
  subst this;exact⟨.slice none 0 0,fun _=>rfl,.inl ⟨rfl,rfl⟩⟩
 ·have hl:(l.take k).length=k:=by rw[List.length_take];omega
  have hb:bounds l.length cap false true false [.int .i64 (k:Nat)]=some (0,k,cap):=by
   rw[JC byO byO];rfl
  have hm:(xs.drop o).take k=(l.take k).map enc:=by
   rw[List.map_take,<-h3,List.take_take,Nat.min_eq_left hk]
  rcases h5 with rfl|rfl
  ·refine⟨.slice (some ⟨b,o,none⟩) k cap,fun H'=>?_,.inr ⟨b,o,none,cap,xs,by rw[hl],h2,by rw[hl];exact hm,byO,.inl rfl,byO⟩⟩
   rw[D5,hb];simp
  ·refine⟨.slice (some ⟨b,o,some 1⟩) k cap,fun H'=>?_,.inr ⟨b,o,some 1,cap,xs,by rw[hl],h2,by rw[hl];exact hm,byO,.inr rfl,byO⟩⟩
   rw[D4,hb];simp
def mxu(n:Nat)(V U:Nat->Int)(T x i:Nat):List Int:=(List.range T).map fun j=>if j%n<x\/(j%n=x/\j/n<i) then V j else U j
theorem Gb(n:Nat)(V U:Nat->Int)(T x i:Nat):(mxu n V U T x i).length=T:=by simp[mxu]
theorem OX(n:Nat)(V U:Nat->Int)(T:Nat):mxu n V U T 0 0=(List.range T).map U:=by
 unfold mxu;exact List.map_congr_left fun j _=>if_neg (fun h=>h.elim (fun h=>absurd h (Nat.not_lt_zero _)) fun h=>absurd h.2 (Nat.not_lt_zero _))
theorem Gc{V U:Nat->Int}{T x i:Nat}(hx:x<n)(h:x+i*n<T):(mxu n V U T x i).set (x+i*n) (V (x+i*n))=mxu n V U T x (i+1):=by
 have hb:=lR (n:=n) (W:=fun _=>[]) (k:=i) hx;have:=tA (F:=fun j=>if j%n<x\/(j%n=x/\j/n<i) then V j else U j) (G:=fun j=>if j%n<x\/(j%n=x/\j/n<i+1) then V j else U j) h (fun j _ hj=>by
  by_cases h1:j%n<x\/(j%n=x/\j/n<i)
  ·rw[if_pos h1,if_pos byO]
  ·rw[if_neg h1,if_neg]
   rintro(h2|⟨h2,h3⟩)
   ·exact h1 (.inl h2)
   ·by_cases h4:j/n=i
    ·apply hj
     have:=Nat.div_add_mod j n;rw[h2,h4,ba₀]at this;omega
    ·exact h1 (.inr ⟨h2,byO⟩))
 rw[hb.1,hb.2,if_pos (.inr ⟨rfl,byO⟩)]at this;exact this
theorem Dk{V U:Nat->Int}{T x i:Nat}(hx:x<n)(hi:i=cnt T n x):mxu n V U T x i=mxu n V U T (x+1) 0:=by
 unfold mxu;refine List.map_congr_left fun j hj=>?_;have hj:=List.mem_range.1 hj;have h1:=qD (N:=T) (n:=n) byO hj;by_cases h:j%n<x\/(j%n=x/\j/n<i)
 ·rw[if_pos h,if_pos byO]
 ·rw[if_neg h,if_neg]
  rintro(h2|h2)
  ·by_cases h3:j%n=x
   ·rw[h3]at h1;exact h (.inr ⟨h3,byO⟩)
   ·exact h (.inl byO)
  ·exact absurd h2.2 (Nat.not_lt_zero _)
theorem Ga{V U:Nat->Int}{T:Nat}(hn:0<n):mxu n V U T n 0=(List.range T).map V:=by
 unfold mxu;exact List.map_congr_left fun j _=>if_pos (.inl (Nat.mod_lt j hn))
theorem take_range{l:List Int}{T:Nat}(h:T<=l.length):l.take T=(List.range T).map fun j=>l.getD j 0:=by
 refine List.ext_getElem (by simp;omega) fun i h1 h2=>?_;rw[List.getElem_take,List.getElem_map,List.getElem_range,au₀,bb₀ (by simp at h1;omega)];rfl
def rn(s:Sz)(l:List Int)(H:Heap)(r:Value):Prop:=
 (iz s l (kJ s)≠0->r=.tuple #[.slice none 0 0,.int .i64 0,.int .i64 (iz s l (kJ s))]) /\
 (∀i,i<30->s=(dz i).sz->l.length=(dz i).d+(dz i).c->inF 256 l=true ->
  ((¬ ∀x,x<(dz i).n->OkX (dz i) l x)->r=.tuple #[.slice none 0 0,.int .i64 0,.int .i64 17]) /\
  ((∀x,x<(dz i).n->OkX (dz i) l x)->∃vo,r=.tuple #[vo,.int .i64 (fW (nch (dz i) l) (dz i).n:Nat),.int .i64 0]/\SlI H vo (ilv (dz i).n (fxX (dz i) l) (dz i).d)))
theorem sF{s:Sz}{l:List Int}{k:Int}(he:iz s l (kJ s)=k)(hk:k≠0):rn s l H (.tuple #[.slice none 0 0,.int .i64 0,.int .i64 k]):=
 ⟨fun _=>by rw[he],fun i hi hs hle hin=>absurd (yl (n:=kJ s) (ll.2 ⟨i,hi,hs⟩) (by rw[hs,hle,ng hi]) hin) (by rw[he];exact hk)⟩
section
variable {lo:Nat}{H:Heap}
open XYf
theorem Nn{i:Nat}(hi:i<30)(hlo:lo<=H.length):Ev cp lo 34 [(dz i).sz.val] H (fun r H'=>Ext H H'/\r=cdV (fB 301) (dz i).ck 1):=by
 have hz:=oa hi;generalize dz i=z at *;obtain⟨n1,n2,dn,d2,c2,-,k1,k2,al⟩:=hz;have hok:mq 2 256 301 (z.ck:Nat) 1:=⟨⟨_,xy⟩,byO,byO,byO,byO⟩;have hdiv:(z.c:Int).tdiv (z.n:Int)=(z.ck:Nat):=(Int.ofNat_tdiv z.c z.n).symm;unfold Dz.sz Sz.val;refine stG rfl rfl ?_;unfold Mx;simp only[kB,aB];refine aC ?_;generalize hG:H++_=G at *;obtain⟨g0,hxG⟩:=bV hG;have g1:Heap.get G (H.length+1)=some (List.replicate 5 (Value.int .i64 0)):=by rw[<-hG,bI];rfl
 clear hG;have hlG:=Heap.get_lt g1;refine aQ ?_;refine aA (RU (ch:=2) (sz:=256) (po:=301) (r:=(z.ck:Nat)) (b:=1) byO byO) ?_;rintro r H1 ⟨hx1,-,-,hv⟩;rw[hv hok];clear hv;have g0:=(hx1).get g0;have g1:=(hx1).get g1;have hx1:=hxG.trans hx1;have hl1:=Heap.get_lt g1;unfold cdI;refine aC ?_;refine aT ?_;exact⟨(hx1.set byO).trans (Ext.app _ _),rfl⟩
set_option maxHeartbeats 1000000 in
theorem CU{s:Sz}{l:List Int}(hl:SlI H v l)(hll:l.length<=1000000000)(hlo:lo<=H.length):Ev cp lo 17 [v,s.val] H (fun r H'=>Ext H H'/\rn s l H' r):=by
 have hl0:=hl;obtain⟨ad,c,rfl⟩:=hl.len;refine stG rfl rfl ?_;unfold Mo;simp only[kB,aB];refine aC ?_;generalize hG:H++_=G at *;obtain⟨g0,hxG⟩:=bV hG;clear hG;have hlG:=hxG.1;refine aQ ?_;refine aA (M5 (s:=s) byO) ?_;rintro r H1 ⟨hx1,rfl⟩;have g0:=hx1.get g0;have hx1:=hxG.trans hx1;have hl1:=hx1.1;by_cases hs:s ∈ szs
 case neg=>
  have hg:rn s l H1 (.tuple #[.slice none 0 0,.int .i64 0,.int .i64 14]):=sF (if_pos hs) (by decide);rw[decide_eq_false hs];refine aC ?_;refine aS ?_ ?_<;>intro h
  case refine_2=>simp at h
  clear h;refine aC ?_;refine aT ?_;exact⟨hx1,hg⟩
 rw[decide_eq_true hs];refine aC ?_;refine aS ?_ ?_<;>intro h
 ·simp at h
 clear h;obtain⟨i0,hi0,hs0⟩:=ll.1 hs;have hck:iz s l (kJ s)=if (l.length:Int)≠kJ s then 7 else if inF 256 l=true then 0 else 3:=if_neg (fun h=>h hs)
 subst hs0;have hgE:∀{k:Int} {H':Heap},iz (dz i0).sz l (kJ (dz i0).sz)=k->k≠0->rn (dz i0).sz l H' (.tuple #[.slice none 0 0,.int .i64 0,.int .i64 k]):=fun h1 h2=>sF h1 h2;have hgB:iz (dz i0).sz l (kJ (dz i0).sz)=0->(¬ ∀x,x<(dz i0).n->OkX (dz i0) l x)->∀{H':Heap},rn (dz i0).sz l H' (.tuple #[.slice none 0 0,.int .i64 0,.int .i64 17]):=by
  intro he hno H';refine⟨fun h=>absurd he h,fun i hi hs _ _=>?_⟩;rw[<-pV hi0 hi hs];exact⟨fun _=>rfl,fun h=>absurd h hno⟩
 have hgG:iz (dz i0).sz l (kJ (dz i0).sz)=0->(∀x,x<(dz i0).n->OkX (dz i0) l x)->∀{H':Heap} {vo:Value},SlI H' vo (ilv (dz i0).n (fxX (dz i0) l) (dz i0).d)->rn (dz i0).sz l H' (.tuple #[vo,.int .i64 (fW (nch (dz i0) l) (dz i0).n:Nat),.int .i64 0]):=by
  intro he hok H' vo hh;refine⟨fun h=>absurd he h,fun i hi hs _ _=>?_⟩;rw[<-pV hi0 hi hs];exact⟨fun h=>absurd hok h,fun _=>⟨vo,rfl,hh⟩⟩
 have hcode:=fun {H:Heap} {lo:Nat} (h:lo<=H.length)=>Nn (H:=H) hi0 h;have hz:=oa hi0;rw[ng hi0]at hck hgE hgB hgG;clear hs;generalize dz i0=zz at *;have n1:=hz.n1;have n2:=hz.n2;have dn:=hz.dn;have d2:=hz.d2;have c2:=hz.c2;have k1:=hz.k1;have k2:=hz.k2;unfold Dz.sz Sz.val at *;simp only[Sz.cells]at *;generalize iz _ l _=ec at *;(try simp only[aB]);by_cases hlz:l.length=zz.d+zz.c
 case neg=>
  rw[if_pos byO]at hck;have hg:=hgE (H':=H1) hck (by decide);clear hgE hgB hgG hcode hck;refine aS ?_ ?_<;>intro h
  case refine_2=>exfalso;simp at h;omega
  clear h;refine aC ?_;refine aT ?_;exact⟨hx1,hg⟩
 rw[if_neg byO]at hck;have hca:∀x,x<zz.n->(cnt l.length zz.n x<=cnt zz.d zz.n x+zz.ck/\cnt zz.d zz.n x+zz.ck<=cnt l.length zz.n x)/\0<cnt zz.d zz.n x/\cnt zz.d zz.n x+zz.ck<=250:=fun x hx=>by
  have:=ye hz hx;rw[<-hlz]at this;omega
 replace hlz:l.length<=zz.d+zz.c/\zz.d+zz.c<=l.length:=byO;refine aS ?_ ?_<;>intro h
 ·exfalso;simp at h;omega
 clear h;(try simp only[aB]);refine aQ ?_;refine aA (KU (hl0.mono hx1) hll) ?_;rintro r _ ⟨rfl,rfl⟩;by_cases hin:inF 256 l=true
 case neg=>
  rw[if_neg hin]at hck;have hg:=hgE (H':=H1) hck (by decide);rw[Bool.not_eq_true]at hin;rw[hin];clear hgE hgB hgG hcode hck;refine aC ?_;refine aS ?_ ?_<;>intro h
  case refine_2=>simp at h
  clear h;refine aC ?_;refine aT ?_;exact⟨hx1,hg⟩
 rw[if_pos hin]at hck;have hgB:=hgB hck;have hgG:=hgG hck;rw[hin];clear hgE hck;have hq0:=Heap.get_lt g0;obtain⟨vt,hsl,hvt⟩:=HS (k:=zz.d) (hl0.mono hx1) byO;have htl:(l.take zz.d).length=zz.d:=by rw[List.length_take];omega
 refine aC ?_;refine aS ?_ ?_<;>intro h
 ·simp at h
 clear h;(try simp only[aB])
 ((first|refine QM ?_|refine QJ rfl ?_);(try simp only[aB]))
 refine aQ ?_;refine Dr (A:=[]) (base:=H1.length) (Own.nil (b:=H1.length) (Nat.le_refl _)) byO (Nat.le_refl _) hvt byO (by simp only[an₀];omega) ?_;intro v6 H2 o6 hk2 hl2;rw[List.nil_append]at o6;have hx2:Ext H1 H2:=⟨byO,fun i hi=>hk2.eq i hi byO⟩;obtain⟨rfl,g6⟩:=BD o6 byO;have g0:=hx2.get g0;have hx2:=hx1.trans hx2;generalize hV:(fun j=>(((co (fxX zz l (j%zz.n)) (j/zz.n)).val:Nat):Int))=V at *;generalize hU:(fun j=>l.getD j 0)=U at *;have g6:Heap.get H2 H1.length=some (bN (mxu zz.n V U zz.d 0 0)):=by
  rw[g6,OX,take_range byO,hU]
 rw[htl];replace hl2:H1.length+1<=H2.length/\H2.length<=H1.length+1:=byO;clear o6 hk2 htl hvt hsl;have hsb:∀x,x<=zz.n->fW (nch zz l) x<=x*250:=by
  intro x
  induction x with
  | zero=>intro _;simp[fW]
  | succ x ih=>
   intro hx;have h1:=ih byO;have h2:=uK zz l x;have h3:=hca x byO;rw[fW,Nat.succ_mul];omega
 refine aC ?_;refine aa (fun x S H'=>Keep H1.length H2 H'/\Heap.get H' H1.length=some (bN (mxu zz.n V U zz.d x 0))/\(∀y,y<x->OkX zz l y)/\∃(z:Nat->Value),S=[.slice ad l.length c,z 1,.pointer (some ⟨H.length,0,none⟩),z 3,z 4,z 5,.slice (some ⟨H1.length,0,some 1⟩) zz.d zz.d,.int .i64 (fW (nch zz l) x:Nat),.int .i64 (x:Nat),z 9,z 10,z 11,z 12,z 13,z 14,z 15,z 16,z 17,z 18,z 19,z 20,z 21,z 22]) zz.n ?_ ?_ ?_ ?_
 ·exact⟨dQ (Ext.refl _),g6,byO,aR rfl⟩
 ·rintro x S H' hx ⟨q1,-,-,z,rfl⟩
  have g0:=q1.get g0 byO;exact⟨_,aW,by simp⟩
 ·clear g6
  rintro x S H3 hx ⟨q1,gt,hw,z,rfl⟩;obtain⟨ca,cb,cc⟩:=hca x hx;have g0:=q1.get g0 byO;have hx3:=q1.ext hx2 byO;have hl3:=hx3.1;have hsl:=hl0.mono hx3;have hq3:=q1.len;have hsx:=hsb x byO;have hsy:=hsb (x+1) byO;rw[fW]at hsy;refine aC ?_;refine aQ ?_;refine aN (hcode (Nat.le_refl _)) ?_;rintro r H4 ⟨hx4,rfl⟩;have gt:=hx4.get gt;have g0:=hx4.get g0;have hsl:=hsl.mono hx4;have hq4:=hx4.1;(try simp only[aB]);refine aQ ?_;refine fV (first:=#[]) (cap:=#[]) (args:=[.slice ad l.length c,.int .i64 (x:Nat),.int .i64 (zz.n:Nat)]) (KS (n:=zz.n) (x:=x) hsl hll hx byO byO) ?_;rintro r H5 ⟨hx5,hr⟩;rw[<-AI hin]at hr;have hr:SlE H5 r (wdE zz l x):=zu hr;have hwl:=pW zz l x;replace hwl:(wdE zz l x).length<=cnt l.length zz.n x/\cnt l.length zz.n x<=(wdE zz l x).length:=byO;have gt:=hx5.get gt;have g0:=hx5.get g0;have hq5:=hx5.1;have hnl:=uK zz l x;(try simp only[aB]);refine aQ ?_;refine fV (first:=#[]) (cap:=#[]) (args:=[cdV (fB 301) zz.ck 1,r,.slice none 0 0]) (F0 (f:=F1) (g:=g1) (w:=wdE zz l x) (e:=[]) byO JQ (JG byO byO) hr byO (.inl ⟨rfl,rfl⟩) (by simp)) ?_;rintro r2 H6 ⟨hx6,-,-,hbad,hgood⟩;have hin0:inR (wdE zz l x).length []:=fun _ h=>by simp at h
  replace hbad:=hbad hin0 byO (by show _<256;omega);replace hgood:=hgood hin0 byO (by show _<256;omega);have gt:=hx6.get gt;have g0:=hx6.get g0;have hq6:=hx6.1;by_cases hok:OkX zz l x
  case neg=>
   rw[hbad hok];clear hbad hgood;unfold nr;have hxx:=((hx3.trans hx4).trans hx5).trans hx6;have hgB:=@hgB (fun h=>hok (h x hx));refine aC ?_;refine aS ?_ ?_<;>intro h
   case refine_2=>exfalso;simp at h
   clear h;refine aC ?_;refine aT ?_;exact⟨hxx.trans (Ext.app _ _),hgB⟩
  obtain⟨vw,vc,rfl,hvw,hvc,hnew⟩:=hgood hok;clear hbad hgood;replace hvw:SlE H6 vw (fxX zz l x):=hvw;have hfl:=yz zz l x;have hvw0:=hvw;obtain⟨aw,cw,ew⟩:=hvw.len;rw[hfl]at ew;subst ew;replace hfl:(fxX zz l x).length<=cnt l.length zz.n x/\cnt l.length zz.n x<=(fxX zz l x).length:=byO;obtain⟨ac,kc,ec⟩:=hvc.len;replace ec:vc=.slice ac (nch zz l x) kc:=ec;subst ec;clear hvc hvw hr;refine aC ?_;generalize hG:H6++_=H7 at *;obtain⟨gr,hxr⟩:=bV hG;clear hG;have hvw0:=hvw0.mono hxr;have gt:=hxr.get gt;have g0:=hxr.get g0;have hq7:=hxr.1;refine aS ?_ ?_<;>intro h
  ·cases h
  clear h;refine aC ?_;have hxm:=(hx4.trans hx5).trans (hx6.trans hxr);have hqm:=hxm.1;refine aa (fun i S H'=>Keep H1.length H7 H'/\Heap.get H' H1.length=some (bN (mxu zz.n V U zz.d x i))/\∃(z:Nat->Value),S=[.slice ad l.length c,z 1,.pointer (some ⟨H.length,0,none⟩),z 3,z 4,z 5,.slice (some ⟨H1.length,0,some 1⟩) zz.d zz.d,.int .i64 (fW (nch zz l) x+nch zz l x:Nat),.int .i64 (x:Nat),.pointer (some ⟨H6.length,0,none⟩),z 10,.int .i64 (i:Nat),z 12,z 13,z 14,z 15,z 16,z 17,z 18,z 19,z 20,z 21,z 22]) (cnt zz.d zz.n x) ?_ ?_ ?_ ?_
  ·exact⟨dQ (Ext.refl _),gt,aR ncM⟩
  ·rintro i S H' hi ⟨k1,-,z,rfl⟩
   have g0:=k1.get g0 byO;have hp1:((x:Nat):Int)+(i:Int)*(zz.n:Int)=((x+i*zz.n:Nat):Int):=by rw[ap₀,Int.natCast_mul]
   have hpb:x+i*zz.n<3000:=by
    have h1:i*zz.n<=250*10:=Nat.mul_le_mul byO n2;omega
   rw[show i<cnt zz.d zz.n x↔x+i*zz.n<zz.d from eC hx];generalize x+i*zz.n=p at *;exact⟨_,aW,by simp⟩
  ·clear gt
   rintro i S H8 hi ⟨q6,gt,z,rfl⟩;have g0:=q6.get g0 byO;have gr:=q6.get gr byO;have hq8:=q6.len;obtain⟨bw,ow,spw,cw2,xw,e6,gx,hat,hxl⟩:=dV (eE hvw0 hnew q6 byO) byO;rw[show(fxX zz l x).length=cnt l.length zz.n x by omega]at e6;cases e6;have hati:=hat i byO;have hml:=Gb zz.n V U zz.d x i;have hl6:=Heap.get_lt gt;have hlr:=Heap.get_lt gr;have hl00:=Heap.get_lt g0;have hp1:((x:Nat):Int)+(i:Int)*(zz.n:Int)=((x+i*zz.n:Nat):Int):=by rw[ap₀,Int.natCast_mul]
   have hp:=(eC hx).1 hi;have hms:=Gc (V:=V) (U:=U) hx hp;have hVp:V (x+i*zz.n)=((((fxX zz l x).getD i 0).val:Nat):Int):=by
    rw[<-hV];have:=lR (n:=zz.n) (W:=fun _=>[]) (k:=i) hx;simp only[this.1,this.2];rfl
   rw[hVp]at hms;have hco:co (fxX zz l x) i=(fxX zz l x).getD i 0:=rfl;rw[hco]at hati;clear hVp hco hat;generalize x+i*zz.n=p at *;generalize ((((fxX zz l x).getD i 0).val:Nat):Int)=y at *;generalize mxu zz.n V U zz.d x i=M at *;generalize mxu zz.n V U zz.d x (i+1)=M' at *;refine aC ?_;refine⟨iN q6 _,?_,aR ncM⟩;rw[aF byO]
  ·clear gt
   rintro S H8 ⟨q6,gt,z,rfl⟩;rw[Dk hx rfl]at gt;have q7:=dB q1 (dB (dQ hxm) q6);refine aC ?_;refine⟨q7,gt,fun y hy=>?_,aR ncM⟩;by_cases e2:y=x
   ·rw[e2];exact hok
   ·exact hw y byO
 ·clear g6
  rintro S H3 ⟨q1,gt,hw,z,rfl⟩;rw[Ga byO,<-hV]at gt;refine aC ?_;refine aT ?_;exact⟨q1.ext hx2 byO,hgG hw (Sl.whole gt (tw _ _ _))⟩
end
section
variable {lo:Nat}
theorem pU:SlI H (.slice none 0 0) []:=.inl ⟨rfl,rfl⟩
theorem CV{s:Sz}{l:List Int}(hll:l.length<=1000000000):∃(L:List Int) (n k:Int),L.length<=10000/\(∀(H:Heap) (v:Value),SlI H v l->lo<=H.length->Ev cp lo 16 [v,s.val] H (fun r H'=>Ext H H'/\∃vo,r=.tuple #[vo,.int .i64 n,.int .i64 k]/\SlI H' vo L)) /\
  (∀(H:Heap) (v:Value),SlI H v l->lo<=H.length->Ev cp lo 17 [v,s.val] H (fun r H'=>Ext H H'/\∃vo,r=.tuple #[vo,.int .i64 n,.int .i64 k]/\SlI H' vo L)):=by
 by_cases he:iz s l (kJ s)=0
 ·obtain⟨hs,hln,hin⟩:=Cm he
  obtain⟨i,hi,rfl⟩:=ll.1 hs;rw[ng hi]at hln;have hlen:l.length=(dz i).d+(dz i).c:=byO;by_cases hok:∀x,x<(dz i).n->OkX (dz i) l x
  ·refine⟨ilv (dz i).n (fxX (dz i) l) (dz i).d,(fW (nch (dz i) l) (dz i).n:Nat),0,?_,fun H v hl hlo=>(CT hl hll hlo).mono fun r H' h=>⟨h.1,?_⟩,fun H v hl hlo=>(CU hl hll hlo).mono fun r H' h=>⟨h.1,(h.2.2 i hi rfl hlen hin).2 hok⟩⟩
   ·rw[tw]
    have:=(oa hi).d2;omega
   ·obtain⟨b,_,e1,e2⟩:=(h.2.2 i hi rfl hlen hin).2 hok
    exact⟨_,e1,Sl.whole e2 (tw _ _ _)⟩
  ·exact⟨[],0,17,by simp,fun H v hl hlo=>(CT hl hll hlo).mono fun r H' h=>⟨h.1,_,(h.2.2 i hi rfl hlen hin).1 hok,pU⟩,fun H v hl hlo=>(CU hl hll hlo).mono fun r H' h=>⟨h.1,_,(h.2.2 i hi rfl hlen hin).1 hok,pU⟩⟩
 ·exact⟨[],0,iz s l (kJ s),by simp,fun H v hl hlo=>(CT hl hll hlo).mono fun r H' h=>⟨h.1,_,h.2.1 he,pU⟩,fun H v hl hlo=>(CU hl hll hlo).mono fun r H' h=>⟨h.1,_,h.2.1 he,pU⟩⟩
end
open Go.Abs
abbrev BY(l:List UInt8):Value:=.string ⟨l.toArray⟩
theorem pd:∀l:List UInt8,bytesOf (uU l)=some l
 | []=>rfl
 | b::l=>by
  have ih:=pd l;simp only[uU,ag₀,bytesOf]at ih ⊢;rw[ih];simp
theorem bytes_beq(a b:List UInt8):((ByteArray.mk a.toArray).toList==(ByteArray.mk b.toArray).toList)=(a==b):=by
 rw[ByteArray.toList_eq,ByteArray.toList_eq]
section
variable {H:Heap}
theorem Bp{l:List UInt8}(h:SlU H v l):aJ .b2s [v] H=some (BY l):=by
 rcases h with ⟨rfl,rfl⟩|⟨b,o,sp,cap,xs,rfl,h1,h2,h3,h4,h5⟩
 ·rfl
 ·simp only[aJ,Heap.cells,h1,if_pos h3,h2]
  rw[show l.map Co=uU l from rfl];simp only[ao₀,pd,Option.map_some]
theorem As{a b:List UInt8}:aJ (.bin .eql) [BY a,BY b] H=some (.bool (a==b)):=by
 simp only[aJ,bF,p4,bytes_beq]
end
end Go.Proofs.YtmnlgdpdgjbfgaaGreat
