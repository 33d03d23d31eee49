/- Lemmas. -/
import Derived.Test.YtmnlgdpdgjbfgaaGreatL17
set_option linter.all false
namespace Go.Proofs.YtmnlgdpdgjbfgaaGreat
open Go.Abs Go.RS
variable{H:Heap}{lo:Nat}{R:Value->Heap->Prop}{v:Value}
set_option maxRecDepth 20000
section
variable {f:FD}[OkC f]
open XPa
theorem IV:Ev cp lo 105 [fvf f,.slice none 0 0] H (fun v H'=>Ext H H'/\v=.bool true):=by
 unfold fvf fv;refine stG rfl rfl ?_;unfold C7;simp only[kB,aC];refine aL ?_;refine bY ?_;refine aB (valid (ch:=FD.ch f) (sz:=f.q) (po:=f.poly) (kN (OkC.ok (f:=f)))) ?_;rintro v H1 ⟨hx1,b,rfl,hb⟩;have hbt:b=true:=hb.2 (jg (OkC.ok (f:=f)));subst hbt;have hx1:=hx1.of_app;(try simp only[aC]);refine bQ ?_ ?_<;>intro h
 ·cases h
 clear h;refine aL ?_;refine aa (fun i S H'=>H1=H'/\∃(z:Nat->Value),S=[z 0,z 1,z 2,.bool false,z 4,z 5,z 6,.slice none 0 0,.int .i64 0,.int .i64 0,z 10,z 11]) 0 ?_ ?_ ?_ ?_
 ·exact⟨rfl,aJ rfl⟩
 ·rintro i S H' hi ⟨rfl,z,rfl⟩
  exact⟨_,bJ,by simp⟩
 ·rintro i S H' hi _
  omega
 ·rintro S H' ⟨rfl,z,rfl⟩
  refine aL ?_;refine bU ?_;exact⟨hx1,rfl⟩
structure PolyOK (l:List (El f)):Prop where
 len:l.length<=4097
 last:l.length=0\/co l (l.length-1)≠0
set_option maxHeartbeats 1000000 in
theorem IW{vp vq:Value}{p q:List (El f)}{bb:Nat}(hp:SlE H vp p)(hq:SlE H vq q)(hpo:PolyOK p)(hqo:PolyOK q)(hb:H.get bb=some [vp,vq]):Ev cp lo 105 [fvf f,.slice (some ⟨bb,0,none⟩) 2 2] H (fun v H'=>Ext H H'/\v=.bool true):=by
 unfold fvf fv;refine stG rfl rfl ?_;unfold C7;simp only[kB,aC];refine aL ?_;refine bY ?_;refine aB (valid (ch:=FD.ch f) (sz:=f.q) (po:=f.poly) (kN (OkC.ok (f:=f)))) ?_;rintro v H1 ⟨hx1,b,rfl,hbv⟩;have hbt:b=true:=hbv.2 (jg (OkC.ok (f:=f)));subst hbt;have g0:H1.get H.length=some _:=hx1.get bJ;have hx1:=hx1.of_app;have hb:=hx1.get hb;(try simp only[aC]);refine bQ ?_ ?_<;>intro h
 ·cases h
 clear h;refine aL ?_;refine aa (fun i S H'=>Ext H1 H'/\∃(z:Nat->Value),S=[z 0,z 1,.pointer (some ⟨H.length,0,none⟩),.bool false,z 4,z 5,z 6,.slice (some ⟨bb,0,none⟩) 2 2,.int .i64 2,.int .i64 (i:Nat),z 10,z 11]) 2 ?_ ?_ ?_ ?_
 ·exact⟨Ext.refl _,aJ rfl⟩
 ·rintro i S H' hi ⟨hx,z,rfl⟩
  exact⟨_,bJ,by simp;try omega⟩
 ·rintro i S H2 hi ⟨hx2,z,rfl⟩
  have f0:=hx2.get g0;have fb:=hx2.get hb;obtain⟨vi,li,hgi,hsl,hok⟩:∃(vi:Value) (li:List (El f)),[vp,vq][i]?=some vi/\SlE H vi li/\PolyOK li:=by
   have:i=0\/i=1:=byO;rcases this with rfl|rfl
   ·exact⟨vp,p,rfl,hp,hpo⟩
   ·exact⟨vq,q,rfl,hq,hqo⟩
  have hsl2:=hsl.mono (hx1.trans hx2);have hsl3:=hsl2;obtain⟨ai,ci,rfl⟩:=hsl.len;have hlen:=hok.len;generalize hvl:[vp,vq]=VL at *;have hVl:VL.length<=2/\2<=VL.length:=by rw[<-hvl];simp
  clear hvl hp hq;refine aL ?_;by_cases hz:li.length=0
  ·have hz1:¬ (4097:Int)<li.length:=byO
   have hz2:¬ (0:Int)<li.length:=byO;clear hz;refine aW (t:=true) bJ lK si (fun _=>⟨_,bJ,?_⟩) (fun h=>by cases h);refine aB (oV (ch:=FD.ch f) (sz:=f.q) (po:=f.poly) (qE hsl3) (by rw[eZ];omega)) ?_;rintro v H3 ⟨hx3,rfl⟩;rw[jb];(try simp only[aC]);refine bQ ?_ ?_<;>intro h
   ·cases h
   clear h;refine aL ?_;exact⟨hx2.trans hx3,aJ ncM⟩
  ·have hlast:=hok.last.resolve_left hz
   obtain⟨b',o,sp,cap,xs,e,gx,hat,hxl⟩:=nC hsl2 byO;cases e;have hati:=hat (li.length-1) byO;have e1:((li.length:Int)-1)=((li.length-1:Nat):Int):=byO;have hz1:¬ (4097:Int)<li.length:=byO;have hz2:(0:Int)<li.length:=byO;have hnz:¬ ((co li (li.length-1)).val:Int)=0:=by have:=wg hlast;omega
   clear hat;refine aW (t:=true) bJ lK si (fun _=>⟨_,bJ,?_⟩) (fun h=>by cases h);refine aB (oV (ch:=FD.ch f) (sz:=f.q) (po:=f.poly) (qE hsl3) (by rw[eZ];omega)) ?_;rintro v H3 ⟨hx3,rfl⟩;rw[jb];(try simp only[aC]);refine bQ ?_ ?_<;>intro h
   ·cases h
   clear h;refine aL ?_;exact⟨hx2.trans hx3,aJ ncM⟩
 ·rintro S H2 ⟨hx2,z,rfl⟩
  refine aL ?_;refine bU ?_;exact⟨hx1.trans hx2,rfl⟩
theorem yT{g:El f}{rs:List (El f)}(hlo:lo<=H.length)(hg:Gn (OkC.ok (f:=f)) g)(hr:SlE H v rs)(hrl:rs.length<=4096) :
  Ev cp lo 104 [fvf f,v] H (fun v H'=>Ext H H'/\∃vp,v=.tuple #[vp,.int .i64 0]/\SlE H' vp (p7 (co rs) rs.length)):=by
 have hr0:=hr;obtain⟨ar,cr,rfl⟩:=hr.len;unfold fvf fv;refine stG rfl rfl ?_;unfold Iy;simp only[kB,aC];refine aL ?_;refine bY ?_;refine aB (IV (f:=f)) ?_;rintro v H1 ⟨hx1,rfl⟩;have g0:H1.get H.length=some _:=hx1.get bJ;have hx1:=hx1.of_app;have hl1:=hx1.1;(try simp only[aC]);refine aW (t:=true) bJ lK si (fun _=>⟨_,bJ,?_⟩) (fun h=>by cases h);refine aB (oV (ch:=FD.ch f) (sz:=f.q) (po:=f.poly) (qE (hr0.mono hx1)) (by rw[eZ];omega)) ?_;rintro v H2 ⟨hx2,rfl⟩;rw[jb];have g0:=hx2.get g0;have hx2:=hx1.trans hx2;have hl2:=Heap.get_lt g0;(try simp only[aC]);refine bQ ?_ ?_<;>intro h
 ·cases h
 clear h;(try simp only[aC]);refine bQ ?_ ?_<;>intro h
 ·simp at h;omega
 clear h;(try simp only[aC]);refine bY ?_;refine aB (tW (f:=f) byO hg) ?_;rintro v H3 ⟨hx3,be,bl,hbe,hbl,rfl,harith⟩;have hx3:=hx2.trans hx3;have hl3:=hx3.1;unfold arV;refine aL ?_;generalize hG:H3++_=G at *;have g1:G.get H3.length=some (arC f be bl):=by rw[<-hG];exact aG
 have g2:G.get (H3.length+1)=some (elL (p7 (co rs) 0)):=by rw[<-hG,bL];rfl
 have hxG:Ext H3 G:=by rw[<-hG];exact Ext.app _ _
 have harith:=harith.mono hxG;clear hG;have hxG:=hx3.trans hxG;generalize H3.length=p3 at *;refine aa (fun i S H'=>Ext G H'/\∃bb,H'.get bb=some (elL (p7 (co rs) i))/\∃(z:Nat->Value),S=[z 0,z 1,.pointer (some ⟨H.length,0,none⟩),.slice none 0 0,.int .i64 0,.pointer (some ⟨p3,0,none⟩),.slice (some ⟨bb,0,none⟩) (i+1) (i+1),z 7,z 8,z 9,z 10,z 11,z 12,.slice ar rs.length cr,.int .i64 (rs.length:Nat),.int .i64 (i:Nat),z 16]) rs.length ?_ ?_ ?_ ?_
 ·exact⟨Ext.refl _,p3+1,g2,aJ rfl⟩
 ·rintro i S H' hi ⟨hx,bb,fb,z,rfl⟩
  exact⟨_,bJ,by simp⟩
 ·clear g2
  rintro i S H4 hi ⟨hx4,bb,fb,z,rfl⟩;have hl4:=(hxG.trans hx4).1;obtain⟨b',o,sp,cap,xs,e,gx,hat,hxl⟩:=nC hr0 byO;cases e;have gx:=(hxG.trans hx4).get gx;have f1:=hx4.get g1;have hati:=hat i hi;have hgl:=qq (co rs) i;have hs1:=iH (sp:=none) fb hgl;clear hat;refine aL ?_;refine bY ?_;refine aB (Gb byO hg (harith.mono hx4) hs1 (by rw[hgl];omega) (co rs i)) ?_;rintro v H5 ⟨hx5,b5,hb5,rfl,f5⟩;rw[hgl]at f5 ⊢;have hgen:tab (i+1+1) (cv (co (p7 (co rs) i)) (mon (co rs i)))=p7 (co rs) (i+1):=by rw[uO];rfl
  rw[hgen]at f5;have hx5:=hx4.trans hx5;clear hgl;refine aL ?_;exact⟨hx5,b5,f5,aJ ncM⟩
 ·rintro S H4 ⟨hx4,bb,fb,z,rfl⟩
  refine aL ?_;refine bU ?_;refine⟨hxG.trans hx4,_,rfl,?_⟩;exact iH (sp:=none) fb (qq _ _)
end
section
variable {f:FD}[OkC f]
theorem CP{z:List Value}{b o c:Nat}{sp:Option Nat}{xs:List Value}(hb:H.get b=some xs)(ho:o<=xs.length)(k:R (.slice none 0 0) H):wpH cp lo (.app 1 z) [.slice none 0 0,.slice (some ⟨b,o,sp⟩) 0 c] H R:=by
 simp only[wpH,cL,hsem,Heap.cells,hb,Nat.zero_mul,Nat.add_zero,ho,if_true,ao₀,List.take_zero,oneCells,List.all_nil,aU,Nat.le_refl];exact k
theorem sO{z:List Value}{c:Nat}(k:R (.slice none 0 0) H):wpH cp lo (.app 1 z) [.slice none 0 0,.slice none 0 c] H R:=by
 simp only[wpH,cL,hsem,if_true,aU,Nat.add_zero,Nat.le_refl];exact k
theorem lI{z:List Value}{b o c n:Nat}{sp:Option Nat}{xs:List Value}{l:List (El f)}(hlo:lo<=H.length)(hb:H.get b=some xs)(ho:o+n<=xs.length)(hx:(xs.drop o).take n=elL l)(hn:n<=4000000000)
  (k:∀v' H',Own lo 1 H' v' H.length (elL l)->Ext H H'->R v' H'):wpH cp lo (.app 1 z) [.slice none 0 0,.slice (some ⟨b,o,sp⟩) n c] H R:=by
 have hll:l.length=n:=by
  have:=congrArg List.length hx;rw[eg,List.length_take,List.length_drop]at this;omega
 by_cases h0:n=0
 ·subst h0
  have:l=[]:=List.length_eq_zero_iff.1 hll;subst this;exact CP hb byO (k _ _ (Own.nil hlo) (Ext.refl _))
 ·refine mD (b:=H.length) (cells:=[]) (c:=elL l) (Own.nil hlo) hlo byO byO (by simp;omega) hb byO (by rw[Nat.mul_one];exact hx) (zh l) ?_
  intro v' H' h1 h2 h3;exact k v' H' (by simpa using h1) ⟨byO,fun i hi=>h2.eq i hi byO⟩
theorem xR{xs:List Value}{o n:Nat}{p:List (El f)}(h:(xs.drop o).take p.length=p.map sR)(hn:n<=p.length):(xs.drop o).take n=elL (p.take n):=by
 have:((xs.drop o).take p.length).take n=(p.map sR).take n:=by rw[h]
 rw[List.take_take,Nat.min_eq_left hn,<-List.map_take]at this;exact this
open XPa
theorem Fb{p:List (El f)}(hlo:lo<=H.length)(hp:SlE H v p)(hpl:p.length<=100000000):Ev cp lo 62 [v] H (fun v H'=>Ext H H'/\SlE H' v (trim p)):=by
 rcases hp with ⟨rfl,rfl⟩|⟨b,o,sp,cap,xs,rfl,hb,hx,hxl,hsp,hcap⟩
 ·refine stG rfl rfl ?_;unfold Kw;simp only[kB,aC]
  refine aL ?_;refine bH (fun m S H'=>H=H'/\S=[.slice none 0 0,.slice none 0 0,.int .i64 0,undef]) 0 ⟨rfl,rfl⟩ ?_;rintro m S H' ⟨rfl,rfl⟩;(try simp only[aC]);refine bQ ?_ ?_<;>intro h
  ·simp at h
  clear h;(try simp only[aC]);refine bY ?_;refine sO ?_;refine aL ?_;refine bU ?_;exact⟨Ext.refl _,.inl ⟨rfl,rfl⟩⟩
 have hat:∀i,i<p.length->xs[o+i]?=some (.int .i64 ((co p i).val:Nat)):=by
  intro i hi;have e:((xs.drop o).take p.length)[i]?=(p.map sR)[i]?:=by rw[hx]
  rw[List.getElem?_take,if_pos hi,List.getElem?_drop]at e;rw[e,az₀,bb₀ hi,tB hi];rfl
 refine stG rfl rfl ?_;unfold Kw;simp only[kB,aC];refine aL ?_;refine bH (fun m S H'=>H=H'/\m<=p.length/\(∀i,m<=i->co p i=0)/\∃z3,S=[.slice (some ⟨b,o,sp⟩) p.length cap,.slice none 0 0,.int .i64 (m:Nat),z3]) p.length ?_ ?_
 ·exact⟨rfl,Nat.le_refl _,fun i hi=>kj hi,_,rfl⟩
 rintro m S H' ⟨rfl,hm,hz,z3,rfl⟩;have hfin:(∀v' H',Own lo 1 H' v' H.length (elL (p.take m))->Ext H H'->trim p=p.take m->Ext H H'/\SlE H' v' (trim p)):=by
  intro v' H' h1 h2 h3;exact⟨h2,by rw[h3];exact Sl.ofOwn h1⟩
 by_cases hm0:m=0
 ·subst hm0
  (try simp only[aC]);refine bQ ?_ ?_<;>intro h
  ·simp at h
  clear h;have ht:trim p=p.take 0:=by rw[<-tz (n:=0) byO hz];rfl
  (try simp only[aC]);rcases hsp with rfl|rfl
  ·refine bY ?_
   refine lI (l:=p.take 0) hlo hb (by simp;omega) (by simp[elL]) (by simp) ?_;intro v' H' h1 h2;refine aL ?_;refine bU ?_;exact hfin v' H' h1 h2 ht
  ·refine bY ?_
   refine lI (l:=p.take 0) hlo hb (by simp;omega) (by simp[elL]) (by simp) ?_;intro v' H' h1 h2;refine aL ?_;refine bU ?_;exact hfin v' H' h1 h2 ht
 have hati:=hat (m-1) byO;have e1:((m:Int)-1)=((m-1:Nat):Int):=byO;have hmp:(0:Int)<m:=byO;(try simp only[aC]);refine bQ ?_ ?_<;>intro h
 ·have hc:co p (m-1)=0:=jB (by simp at h;omega)
  clear h;clear hat hati;refine aL ?_;simp only[cN];refine⟨m-1,byO,by trivial,byO,fun i hi=>?_,_,rfl⟩;by_cases e:i=m-1
  ·rw[e];exact hc
  ·exact hz i byO
 ·have hc:co p (m-1)≠0:=fun e=>by rw[e,Ak]at h;simp at h;try omega
  clear h;have ht:trim p=p.take m:=by
   rw[<-tz hm hz];have:=CN (l:=p) (n:=m-1) byO hc;rwa [show m-1+1=m by omega]at this
  clear hat hati e1;(try simp only[aC]);rcases hsp with rfl|rfl
  ·refine bY ?_
   refine lI (l:=p.take m) hlo hb (by first|omega|(simp;omega)) (by simpa using xR hx hm) (by first|omega|(simp;omega)) ?_;intro v' H' h1 h2;refine aL ?_;refine bU ?_;exact hfin v' H' h1 h2 ht
  ·refine bY ?_
   refine lI (l:=p.take m) hlo hb (by first|omega|(simp;omega)) (by simpa using xR hx hm) (by first|omega|(simp;omega)) ?_;intro v' H' h1 h2;refine aL ?_;refine bU ?_;exact hfin v' H' h1 h2 ht
end
section
variable {f:FD}[OkC f]
structure DivR (p q R:List (El f))(Q:Ser (El f))(m:Nat):Prop where
 len:R.length=p.length
 eq:∀k,co p k=cv Q (co q) k+co R k
 top:∀k,m<=k->co R k=0
 qz:∀k,p.length<=k->Q k=0
open XPa
set_option maxHeartbeats 4000000 in
theorem GZ{be bl:Nat}{g:El f}{vp vq:Value}{p q:List (El f)}(hlo:lo<=H.length)(hg:Gn (OkC.ok (f:=f)) g)(ha:ArH H g be bl)(hp:SlE H vp p)(hq:SlE H vq q)(hpl:p.length<=10000000)(hql:q.length<=10000000)(hq0:0<q.length)(hqt:co q (q.length-1)≠0) :
  Ev cp lo 107 [arV f be bl,vp,vq] H (fun v H'=>Ext H H'/\∃vt vr R Q,v=.tuple #[vt,vr]/\SlE H' vr (trim R)/\DivR p q R Q (q.length-1)):=by
 have hp0:=hp;have hq0':=hq;obtain⟨b',o',sp',capq,ys,eq',gy,hay,hyl⟩:=nC hq hq0;cases eq';have hby:=Heap.get_lt gy;have hcopy:∀(G:Heap) (R:Value->Heap->Prop) (z:List Value),Ext H G->(∀v' H',Own lo 1 H' v' G.length (elL p)->Ext G H'->R v' H')->wpH cp lo (.app 1 z) [.slice none 0 0,vp] G R:=by
  intro G R z hG k;rcases hp with ⟨rfl,rfl⟩|⟨b,o,sp,cap,xs,rfl,hb,hx,hxl,_⟩
  ·exact sO (k _ _ (Own.nil (Nat.le_trans hlo hG.1)) (Ext.refl _))
  ·exact lI (Nat.le_trans hlo hG.1) (hG.get hb) hxl hx byO k
 obtain⟨ap,capp,rfl⟩:=hp0.len;have htop:((q.length:Int)-1)=((q.length-1:Nat):Int):=byO;unfold arV;refine stG rfl rfl ?_;unfold JA;simp only[kB,aC];refine aL ?_;generalize hG:H++_=G at *;have g0:G.get H.length=some (arC f be bl):=by rw[<-hG];exact aG
 have hxG:Ext H G:=by rw[<-hG];exact Ext.app _ _
 have hGl:G.length=H.length+1:=by rw[<-hG];simp
 clear hG;refine bY ?_;refine hcopy G _ _ hxG ?_;intro v5 H1 hown hx1;clear hcopy;have g0:=hx1.get g0;have hx1:=hxG.trans hx1;have hl1:=hx1.1;rw[hGl]at hown;clear hxG hGl;refine aL ?_;generalize htE:q.length-1=top at *;by_cases hlen:top<p.length;rotate_left
 ·
  refine bQ ?_ ?_<;>intro h
  ·simp at h;omega
  clear h;refine aL ?_;refine bH (fun m S H'=>H1=H'/\∃z4 z5 z6 z7:Value,m=0/\z4=.slice none 0 0/\v5=z5/\z7=.int .i64 (-1)/\∃z0 z1 z2 z3 z8 z9 z10 z11 z12 z13 z14 z15 z16 z17 z18 z19 z20 z21 z22 z23 z24,S=[z0,z1,z2,z3,z4,z5,z6,z7,z8,z9,z10,z11,z12,z13,z14,z15,z16,z17,z18,z19,z20,z21,z22,z23,z24]) 0 ⟨rfl,_,_,_,_,rfl,rfl,rfl,rfl,_,_,_,_,_,_,_,_,_,_,_,_,_,_,_,_,_,_,_,_,_,rfl⟩ ?_;rintro m S H' ⟨rfl,z4,z5,z6,z7,rfl,rfl,rfl,rfl,z0,z1,z2,z3,z8,z9,z10,z11,z12,z13,z14,z15,z16,z17,z18,z19,z20,z21,z22,z23,z24,rfl⟩;(try simp only[aC]);refine bQ ?_ ?_<;>intro h
  ·simp at h
  clear h;have hsl:SlE H1 v5 p:=Sl.ofOwn hown;(try simp only[aC]);refine bY ?_;refine aB (Fb byO hsl byO) ?_;rintro v H2 ⟨hx2,hs2⟩;refine aL ?_;refine bU ?_;refine⟨hx1.trans hx2,_,_,p,fun _=>0,rfl,hs2,rfl,fun k=>?_,fun k hk=>kj byO,fun _ _=>rfl⟩;rw[pn,zb];exact(zero_add _).symm
 obtain⟨hb5,⟨_,e⟩|⟨n5,hn5,hn5l,rfl,f5⟩⟩:=hown
 ·exfalso
  have:=congrArg List.length e;rw[eg,an₀]at this;omega
 rw[eg,Nat.mul_one]at hn5l;subst hn5l;have hsub:((p.length:Int)-(top:Int))=((p.length-top:Nat):Int):=byO;refine bQ ?_ ?_<;>intro h;rotate_left
 ·exfalso;simp at h;try omega
 clear h;refine aL ?_;generalize hM:H1.length=M at *;have hb5M:=Heap.get_lt f5;rw[hM]at hb5M;have hm1:(((p.length-top:Nat):Int)-1)=((p.length-top:Nat):Int)-1:=rfl;clear hsub;refine bH (fun i S H'=>Ext H H'/\i<=p.length-top/\H'.get H.length=some (arC f be bl)/\∃(R Qv:List (El f)) (Q:Ser (El f)),H'.get (H.length+1)=some (elL R)/\H'.get M=some (elL Qv)/\Qv.length=p.length-top/\DivR p q R Q (i+top)/\∃(z:Nat->Value),S=[z 0,z 1,.slice (some ⟨b',o',sp'⟩) q.length capq,.pointer (some ⟨H.length,0,none⟩),.slice (some ⟨M,0,none⟩) (p.length-top) (p.length-top),.slice (some ⟨H.length+1,0,some 1⟩) p.length p.length,.int .i64 (top:Nat),.int .i64 ((i:Nat)-1),z 8,z 9,z 10,z 11,z 12,z 13,z 14,z 15,z 16,z 17,z 18,z 19,z 20,z 21,z 22,z 23,z 24]) (p.length-top) ?_ ?_
 ·refine⟨hx1.trans (Ext.app _ _),Nat.le_refl _,by simp(disch:=try exact dO)only[evB,xtr,Nat.reduceAdd,Nat.reduceBEq, *],p,List.replicate (p.length-top) 0,fun _=>0,by simp(disch:=try exact dO)only[evB,xtr,Nat.reduceAdd,Nat.reduceBEq, *],by rw[<-hM,aG],by simp,⟨rfl,fun k=>?_,fun k hk=>kj (by omega),fun _ _=>rfl⟩,aJ rfl⟩
  rw[pn,zb];exact(zero_add _).symm
 clear g0 f5 hm1;rintro m S H2 ⟨hx2,hmle,f0,R,Qv,Q,f5,fM,hQl,hdiv,z,rfl⟩;by_cases hm0:m=0
 ·subst hm0
  (try simp only[aC]);refine bQ ?_ ?_<;>intro h
  ·simp at h
  clear h;have hRl:=hdiv.len;have hl2:=hx2.1;have hsl:SlE H2 (.slice (some ⟨H.length+1,0,some 1⟩) p.length p.length) R:=iH f5 hRl;(try simp only[aC]);refine bY ?_;refine aB (Fb byO hsl byO) ?_;rintro v H3 ⟨hx3,hs3⟩;refine aL ?_;refine bU ?_;rw[Nat.zero_add]at hdiv;exact⟨hx2.trans hx3,_,_,R,Q,rfl,hs3,hdiv⟩
 obtain⟨i,rfl⟩:∃i,m=i+1:=⟨m-1,byO⟩;have e1:(((i+1:Nat):Int)-1)=(i:Int):=byO;rw[e1];have hRl:=hdiv.len;have hRl2:R.length<=p.length/\p.length<=R.length:=byO;have hQl2:Qv.length<=p.length-top/\p.length-top<=Qv.length:=byO;have gy2:=hx2.get gy;have hat:=hay top byO;have hit:((i:Int)+(top:Int))=((i+top:Nat):Int):=byO;have hcoR:R.getD (i+top) 0=co R (i+top):=rfl;have hl2:=hx2.1;clear hm0;(try simp only[aC]);refine bQ ?_ ?_<;>intro h;rotate_left
 ·exfalso;simp at h;try omega
 clear h;refine aL ?_;refine bY ?_;refine aB (RB hg (ha.mono hx2) (co R (i+top)) (co q top) hqt) ?_;rintro v H3 ⟨hx3,rfl⟩;have f0:=(hx3).get f0;have f5:=(hx3).get f5;have fM:=(hx3).get fM;have gy2:=(hx3).get gy2;have hx3:=hx2.trans hx3;have hMl:=Heap.get_lt fM;generalize hc:co R (i+top)*inv (co q top)=c at *;clear hat hit hcoR;refine aL ?_;generalize hG4:List.set H3 M _=H4 at *;have f0:Heap.get H4 H.length=some (arC f be bl):=by rw[<-hG4,aI byO];exact f0
 have f5:Heap.get H4 (H.length+1)=some (elL R):=by rw[<-hG4,aI byO];exact f5
 have fM:Heap.get H4 M=some (elL (Qv.set i c)):=by rw[<-hG4,aF byO]
 have hx4:Ext H H4:=by rw[<-hG4];exact hx3.set byO
 have hQl3:(Qv.set i c).length=p.length-top:=by rw[List.length_set];exact hQl
 generalize Qv.set i c=Qv' at *;clear hG4 hx3 hMl hQl hQl2 gy2;refine aa (fun j S H'=>Ext H H'/\H'.get H.length=some (arC f be bl)/\H'.get (H.length+1)=some (elL (tab p.length (fun k=>if i<=k/\k<i+j then co R k-c*co q (k-i) else co R k)))/\H'.get M=some (elL Qv')/\∃(z:Nat->Value),S=[z 0,z 1,.slice (some ⟨b',o',sp'⟩) q.length capq,.pointer (some ⟨H.length,0,none⟩),.slice (some ⟨M,0,none⟩) (p.length-top) (p.length-top),.slice (some ⟨H.length+1,0,some 1⟩) p.length p.length,.int .i64 (top:Nat),.int .i64 (i:Nat),.int .i64 (c.val:Nat),z 9,z 10,z 11,z 12,z 13,.slice (some ⟨b',o',sp'⟩) q.length capq,.int .i64 (q.length:Nat),.int .i64 (j:Nat),z 17,z 18,z 19,z 20,z 21,z 22,z 23,z 24]) q.length ?_ ?_ ?_ ?_
 ·refine⟨hx4,f0,?_,fM,aJ rfl⟩
  rw[f5];refine congrArg (fun t=>some (elL t)) ?_;refine F9 hRl fun k _=>?_;rw[if_neg byO]
 ·rintro j S H' hj ⟨hx,f0,f5,fM,z,rfl⟩
  exact⟨_,bJ,by simp⟩
 ·clear f0 f5 fM hx4
  rintro j S H4 hj ⟨hx4,f0,f5,fM,z,rfl⟩;have gy2:=hx4.get gy;have hayj:=hay j hj;have hget:(tab p.length (fun k=>if i<=k/\k<i+j then co R k-c*co q (k-i) else co R k)).getD (i+j) 0=co R (i+j):=by rw[sE byO,if_neg byO]
  have hset:(tab p.length (fun k=>if i<=k/\k<i+j then co R k-c*co q (k-i) else co R k)).set (i+j) (co R (i+j)-c*co q j)=tab p.length (fun k=>if i<=k/\k<i+(j+1) then co R k-c*co q (k-i) else co R k):=by
   rw[lz];refine cT fun k hk=>?_;by_cases e:k=i+j
   ·rw[if_pos e,if_pos byO,e,show i+j-i=j by omega]
   ·rw[if_neg e]
    by_cases h2:i<=k/\k<i+j
    ·rw[if_pos h2,if_pos byO]
    ·rw[if_neg h2,if_neg byO]
  have hlen2:(tab p.length (fun k=>if i<=k/\k<i+j then co R k-c*co q (k-i) else co R k)).length<=p.length/\p.length<=(tab p.length (fun k=>if i<=k/\k<i+j then co R k-c*co q (k-i) else co R k)).length:=by rw[eC];omega
  generalize tab p.length (fun k=>if i<=k/\k<i+j then co R k-c*co q (k-i) else co R k)=T at *;have hin:((i:Int)+(j:Int))=((i+j:Nat):Int):=byO;have hl4:=Heap.get_lt f5;refine aL ?_;refine bY ?_;refine cU (PA hg (ha.mono hx4) c (co q j)) ?_;rintro v H5 ⟨hx5,rfl⟩;have f0:=(hx5).get f0;have f5:=(hx5).get f5;have fM:=(hx5).get fM;have hx5:=hx4.trans hx5;(try simp only[aC]);refine bY ?_;refine aB (QW (co R (i+j)) (c*co q j)) ?_;rintro v H6 ⟨hx6,rfl⟩;have f0:=(hx6).get f0;have f5:=(hx6).get f5;have fM:=(hx6).get fM;have hx6:=hx5.trans hx6;have hl6:=Heap.get_lt f5;clear hget;refine aL ?_;exact⟨hx6.set (by omega),by simp(disch:=try exact dO)only[evB,xtr,Nat.reduceAdd,Nat.reduceBEq, *],by rw[aF (by omega)],by simp(disch:=try exact dO)only[evB,xtr,Nat.reduceAdd,Nat.reduceBEq, *],aJ ncM⟩
 ·clear f0 f5 fM hx4
  rintro S H4 ⟨hx4,f0,f5,fM,z,rfl⟩;refine aL ?_;simp only[cN];refine⟨i,byO,hx4,byO,f0,_,Qv',fun k=>Q k+c*sh i (s1:Ser (El f)) k,f5,fM,hQl3,⟨eC _ _,fun k=>?_,fun k hk=>?_,fun k hk=>?_⟩,aJ rfl⟩
  ·rw[hdiv.eq k,DN,BJ,Jo,qX,kl]
   have hR0:p.length<=k->co R k=0:=fun h=>kj byO;by_cases h1:k<p.length
   ·rw[if_pos h1]
    by_cases h2:i<=k/\k<i+q.length
    ·rw[if_pos h2,rq _ h2.1]
     exact(show((cv Q (co q) k)+(co R k))=(((cv Q (co q) k)+(c*(co q (k-i))))+((co R k)-(c*(co q (k-i))))) from dV [(cv Q (co q) k),(co R k),c,(co q (k-i))] (.add (.v 0) (.v 1)) (.add (.add (.v 0) (.mul (.v 2) (.v 3))) (.add (.v 1) (.neg (.mul (.v 2) (.v 3))))) rfl)
    ·rw[if_neg h2]
     have hs0:sh i (co q) k=0:=by
      by_cases h3:i<=k
      ·rw[rq _ h3,kj byO]
      ·rw[xQ _ byO]
     rw[hs0];exact(show((cv Q (co q) k)+(co R k))=(((cv Q (co q) k)+(c*0))+(co R k)) from dV [(cv Q (co q) k),(co R k),c] (.add (.v 0) (.v 1)) (.add (.add (.v 0) (.mul (.v 2) .zero)) (.v 1)) rfl)
   ·rw[if_neg h1,hR0 byO]
    have hs0:sh i (co q) k=0:=by rw[rq _ byO,kj byO]
    rw[hs0];exact(show((cv Q (co q) k)+0)=(((cv Q (co q) k)+(c*0))+0) from dV [(cv Q (co q) k),c] (.add (.v 0) .zero) (.add (.add (.v 0) (.mul (.v 1) .zero)) .zero) rfl)
  ·rw[kl]
   split
   ·by_cases h2:i<=k/\k<i+q.length
    ·rw[if_pos h2]
     have hkt:k=i+top:=byO;rw[hkt,show i+top-i=top by omega,<-hc,mul_assoc,inv_mul hqt,mul_one,sub_self]
    ·rw[if_neg h2]
     exact hdiv.top k byO
   ·rfl
  ·show Q k+c*sh i (s1:Ser (El f)) k=0
   rw[hdiv.qz k hk,rq _ byO];unfold s1;rw[if_neg byO,mul_zero,add_zero]
theorem GX{g:El f}{vp vq:Value}{p q:List (El f)}(hlo:lo<=H.length)(hg:Gn (OkC.ok (f:=f)) g)(hp:SlE H vp p)(hq:SlE H vq q)(hpo:PolyOK p)(hqo:PolyOK q)(hq0:0<q.length) :
  Ev cp lo 61 [fvf f,vp,vq] H (fun v H'=>Ext H H'/\∃vt vr R Q,v=.tuple #[vt,vr,.int .i64 0]/\SlE H' vr (trim R)/\DivR p q R Q (q.length-1)):=by
 have hp0:=hp;have hq0':=hq;obtain⟨ap,cpp,rfl⟩:=hp.len;obtain⟨aq,cqq,rfl⟩:=hq.len;have hpl:=hpo.len;have hql:=hqo.len;unfold fvf fv;refine stG rfl rfl ?_;unfold OD;simp only[kB,aC];refine aL ?_;generalize hG:H++_=G at *;have g0:G.get H.length=some [.int .i64 (FD.ch f:Nat),.int .i64 (f.q:Nat),.int .i64 (f.poly:Nat)]:=by rw[<-hG];exact aG
 have g1:G.get (H.length+1)=some [.slice ap p.length cpp,.slice aq q.length cqq]:=by rw[<-hG,bL];rfl
 have hxG:Ext H G:=by rw[<-hG];exact Ext.app _ _
 clear hG;refine bY ?_;refine aB (IW (hp0.mono hxG) (hq0'.mono hxG) hpo hqo g1) ?_;rintro v H1 ⟨hx1,rfl⟩;have g0:=hx1.get g0;have hx1:=hxG.trans hx1;have hl1:=hx1.1;(try simp only[aC]);refine bQ ?_ ?_<;>intro h
 ·cases h
 clear h;(try simp only[aC]);refine bQ ?_ ?_<;>intro h
 ·exfalso;have:=of_decide_eq_true h;omega
 clear h;(try simp only[aC]);refine bY ?_;refine aB (tW (f:=f) byO hg) ?_;rintro v H2 ⟨hx2,be,bl,hbe,hbl,rfl,harith⟩;have hx2:=hx1.trans hx2;have hl2:=hx2.1;(try simp only[aC]);refine bY ?_;refine aB (GZ byO hg harith (hp0.mono hx2) (hq0'.mono hx2) byO byO hq0 (hqo.last.resolve_left byO)) ?_;rintro v H3 ⟨hx3,vt,vr,R,Q,rfl,hs,hd⟩;refine aL ?_;refine bU ?_;exact⟨hx2.trans hx3,vt,vr,R,Q,rfl,hs,hd⟩
end
def cdI(ch sz po r b:Int):Value:=.agg #[.int .i64 ch,.int .i64 sz,.int .i64 po,.int .i64 r,.int .i64 b]
def xe(ch sz po r b:Int):Prop:=(∃f,OkF ch sz po f)/\1<=r/\r<=sz-2/\0<=b/\b<=sz-2
theorem E7{ch sz po:Int}(h:∃f,OkF ch sz po f):2<=sz/\sz<=4096:=by
 obtain⟨f,hf,h1,_⟩:=h;have:=hf.two;omega
namespace XRa
def xtr:=zzi @Int.cast_ofNat_Int (zzi @fv.eq_1 (zzi @fvf.eq_1 (zzi @ite_self.{1} (zzi @lA (zzi @kz @ky)))))
end XRa
open XRa
theorem fits{ch sz po r b:Int}(hs:-9223372036854775000<=sz)(hs2:sz<=9223372036854775807):Ev cp lo 101 [fv ch sz po,.int .i64 r,.int .i64 b] H (fun v H'=>Ext H H'/\v=.bool (((decide (1<=r)&&decide (r<=sz-2))&&decide (0<=b))&&decide (b<=sz-2))):=by
 unfold fv;refine stG rfl rfl ?_;unfold Iv;simp only[kB,aC];refine aL ?_;refine bU ?_;exact⟨Ext.app _ _,rfl⟩
set_option maxHeartbeats 1000000 in
theorem A7{ch sz po r b:Int}{l:List Int}(hb:po<=9223372036854775807)(hl:SlI H v l)(hll:l.length<=9223372036854775807):Ev cp lo 58 [cdI ch sz po r b,v] H (fun v H'=>Ext H H'/\∃t,v=.bool t/\(t=true↔xe ch sz po r b/\inF sz l=true)):=by
 have hl0:=hl;obtain⟨ad,c,rfl⟩:=hl.len;unfold cdI;refine stG rfl rfl ?_;unfold OA;simp only[kB,aC];refine aL ?_;refine bY ?_;refine aB (valid (ch:=ch) (sz:=sz) (po:=po) hb) ?_;rintro v H1 ⟨hx1,t1,rfl,ht1⟩;have g0:H1.get H.length=some _:=hx1.get bJ;have hx1:=hx1.of_app;cases t1 with
 | false=>
  have hnf:¬ ∃f,OkF ch sz po f:=fun h=>by have:=ht1.2 h;cases this
  (try simp only[aC]);refine aW (t:=false) bJ lK si (fun h=>by cases h) (fun _=>?_);(try simp only[aC]);refine aW (t:=false) bJ lK si (fun h=>by cases h) (fun _=>?_);refine aL ?_;refine bU ?_;exact⟨hx1,false,rfl,by simp;intro h;exact absurd h.1 hnf⟩
 | true=>
  have hf:=ht1.1 rfl;have hsz:=E7 hf;(try simp only[aC]);refine aW (t:=true) bJ lK si (fun _=>⟨_,bJ,?_⟩) (fun h=>by cases h);refine aB (fits (ch:=ch) (sz:=sz) (po:=po) (r:=r) (b:=b) byO byO) ?_;rintro v H2 ⟨hx2,rfl⟩;have g0:=hx2.get g0;have hx2:=hx1.trans hx2;generalize ht2:(((decide (1<=r)&&decide (r<=sz-2))&&decide (0<=b))&&decide (b<=sz-2))=t2;have ht2':t2=true↔1<=r/\r<=sz-2/\0<=b/\b<=sz-2:=by
   rw[<-ht2];simp only[ac₀,af₀];omega
  clear ht2;cases t2 with
  | false=>
   have hnf:¬ (1<=r/\r<=sz-2/\0<=b/\b<=sz-2):=fun h=>by have:=ht2'.2 h;cases this
   (try simp only[aC]);refine aW (t:=false) bJ lK si (fun h=>by cases h) (fun _=>?_);refine aL ?_;refine bU ?_;exact⟨hx2,false,rfl,by simp;intro h;exact absurd h.2 hnf⟩
  | true=>
   (try simp only[aC]);refine aW (t:=true) bJ lK si (fun _=>⟨_,bJ,?_⟩) (fun h=>by cases h);refine aB (BL (ch:=ch) (sz:=sz) (po:=po) (hl0.mono hx2) hll) ?_;rintro v H3 ⟨hx3,rfl⟩;refine aL ?_;refine bU ?_;exact⟨hx2.trans hx3,inF sz l,rfl,⟨fun h=>⟨⟨hf,ht2'.1 rfl⟩,h⟩,fun h=>h.2⟩⟩
theorem Re{ch sz po r b n:Int}:Ev cp lo 59 [cdI ch sz po r b,.int .i64 n] H (fun v H'=>Ext H H'/\v=.bool (decide (r<n)&&decide (n<sz))):=by
 unfold cdI;refine stG rfl rfl ?_;unfold OB;simp only[kB,aC];refine aL ?_;refine bU ?_;exact⟨Ext.app _ _,rfl⟩
theorem QY{f:FD}{l:List Int}(h:inF (f.q:Int) l=true):∃le:List (El f),l=le.map fun x=>(x.val:Int):=by
 induction l with
 | nil=>exact⟨[],rfl⟩
 | cons a l ih=>
  have h2:=jF.1 h;have ha:=h2 a (by simp);obtain⟨le,hle⟩:=ih (jF.2 fun x hx=>h2 x (by simp[hx]));refine⟨⟨a.toNat,byO⟩::le,?_⟩;rw[hle];simp;omega
end Go.Proofs.YtmnlgdpdgjbfgaaGreat
namespace Go.Proofs.YtmnlgdpdgjbfgaaGreat
open Go.Abs Go.RS
section
variable {ch sz po r b:Int}{v:Value}{l:List Int}{lo:Nat}{H:Heap}
end
section
variable {f:FD}[OkC f]
theorem I9{H:Heap}{v:Value}{l:List (El f)}(h:SlI H v (fo l)):SlE H v l:=by
 rcases h with ⟨h1,h2⟩|⟨b,o,sp,cap,xs,h1,h2,h3,h4⟩
 ·exact .inl ⟨h1,by simpa[fo]using h2⟩
 ·refine .inr ⟨b,o,sp,cap,xs,by rw[h1];simp[fo],h2,?_,by simpa[fo]using h4⟩
  simp only[fo,ay₀,List.map_map]at h3;exact h3
structure CdOK (f:FD)(r b:Nat):Prop where
 r1:1<=r
 r2:r<=f.q-2
 b2:b<=f.q-2
theorem AW{r b:Nat}(h:CdOK f r b):xe (FD.ch f) f.q f.poly r b:=by
 have h2:=qle (f:=f);obtain⟨a,b,c⟩:=h;exact⟨jg (OkC.ok (f:=f)),byO,byO,byO,byO⟩
namespace XRb
def xtr:=zzi @Int.cast_ofNat_Int (zzi @fv.eq_1 (zzi @fvf.eq_1 (zzi @ite_self.{1} (zzi @lA (zzi @kz (zzi @ky (zzi @cdC.eq_1 (zzi @arC.eq_1 (zzi @kt (zzi @eg (zzi @gH @jN)))))))))))
end XRb
open XRb
theorem Ge{lo:Nat}{H:Heap}{g:El f}{r b:Nat}(hlo:lo<=H.length)(hg:Gn (OkC.ok (f:=f)) g)(hc:CdOK f r b):Ev cp lo 60 [cdV f r b] H (fun v H'=>Ext H H'/\∃vs,v=.tuple #[vs,.int .i64 0]/\SlE H' vs (p7 (fun i=>pw g (b+i)) r)):=by
 have h2:=qle (f:=f);have hok:=AW hc;obtain⟨c1,c2,c3⟩:=hc;unfold cdV;refine stG rfl rfl ?_;unfold OC;simp only[kB,aC];refine aL ?_;refine bY ?_;refine aB (A7 (ch:=FD.ch f) (sz:=f.q) (po:=f.poly) (r:=r) (b:=b) (l:=[]) (kN (OkC.ok (f:=f))) (.inl ⟨rfl,rfl⟩) (by simp)) ?_;rintro v H1 ⟨hx1,t,rfl,ht⟩;have g0:H1.get H.length=some _:=hx1.get bJ;have hx1:=hx1.of_app;have htt:t=true:=ht.2 ⟨hok,rfl⟩;subst htt;have hl1:=hx1.1;(try simp only[aC]);refine bQ ?_ ?_<;>intro h
 ·cases h
 clear h;(try simp only[aC]);refine bY ?_;refine aB (Bg (f:=f) byO hg) ?_;rintro v H2 ⟨hx2,be,bl,hbe,hbl,rfl,harith⟩;have hbe2:=harith.lt;have g0:=hx2.get g0;have hx2:=hx1.trans hx2;have hl2:=Heap.get_lt g0;unfold arV;refine aL ?_;generalize hG:H2++_=G at *;have g1:G.get H2.length=some (arC f be bl):=by rw[<-hG];exact aG
 have g2:G.get (H2.length+1)=some (elL (tab r (fun _=>(0:El f)))):=by rw[<-hG,bL,jX];rfl
 have g0:G.get H.length=some (cdC f r b):=by rw[<-hG,aQ byO];exact g0
 have hxG:Ext H2 G:=by rw[<-hG];exact Ext.app _ _
 have harith:=harith.mono hxG;have hal:=harith.lt;clear hG;have hxG:=hx2.trans hxG;generalize hp2:H2.length=p2 at *;refine aa (fun i S H'=>Ext H H'/\H'.get H.length=some (cdC f r b)/\H'.get p2=some (arC f be bl)/\ArH H' g be bl/\H'.get (p2+1)=some (elL (tab r (fun k=>if k<i then pw g (b+k) else 0)))/\∃(z:Nat->Value),S=[z 0,.pointer (some ⟨H.length,0,none⟩),.slice none 0 0,.int .i64 0,.pointer (some ⟨p2,0,none⟩),.slice (some ⟨p2+1,0,none⟩) r r,z 6,z 7,z 8,z 9,.int .i64 (r:Nat),.int .i64 (i:Nat),z 12,z 13,z 14,z 15]) r ?_ ?_ ?_ ?_
 ·refine⟨hxG,g0,g1,harith,?_,aJ rfl⟩
  rw[g2];refine congrArg (fun t=>some (elL t)) ?_;exact cT fun k _=>(if_neg byO).symm
 ·rintro i S H' hi ⟨hx,f0,f1,fa,f2,z,rfl⟩
  exact⟨_,bJ,by simp⟩
 ·clear g0 g1 g2 hxG harith hal
  rintro i S H3 hi ⟨hx3,f0,f1,fa,f2,z,rfl⟩;have hset:(tab r (fun k=>if k<i then pw g (b+k) else 0)).set i (pw g (b+i))=tab r (fun k=>if k<i+1 then pw g (b+k) else 0):=by
   rw[lz];refine cT fun k hk=>?_;by_cases e:k=i
   ·rw[if_pos e,if_pos byO,e]
   ·rw[if_neg e]
    by_cases h2:k<i
    ·rw[if_pos h2,if_pos byO]
    ·rw[if_neg h2,if_neg byO]
  have hlen2:(tab r (fun k=>if k<i then pw g (b+k) else 0)).length<=r/\r<=(tab r (fun k=>if k<i then pw g (b+k) else 0)).length:=by rw[eC];omega
  generalize tab r (fun k=>if k<i then pw g (b+k) else 0)=T at *;have hbi:((b:Int)+(i:Int))=((b+i:Nat):Int):=byO;refine aL ?_;refine bY ?_;refine aB (NG hg fa (b+i) byO) ?_;rintro v H4 ⟨hx4,rfl⟩;have f0:=(hx4).get f0;have f1:=(hx4).get f1;have f2:=(hx4).get f2;have fa:=fa.mono hx4;have hx4:=hx3.trans hx4;have hl4:=Heap.get_lt f2;clear hbi;refine aL ?_;exact⟨hx4.set (by omega),by simp(disch:=try exact dO)only[evB,xtr,Nat.reduceAdd,Nat.reduceBEq, *],by simp(disch:=try exact dO)only[evB,xtr,Nat.reduceAdd,Nat.reduceBEq, *],fa.keep ⟨by simp,fun i hi hne=>aI (fun e=>hne e.symm)⟩ (by omega) (by omega),by rw[aF (by omega)],aJ ncM⟩
 ·rintro S H3 ⟨hx3,f0,f1,fa,f2,z,rfl⟩
  have hT:tab r (fun k=>if k<r then pw g (b+k) else 0)=tab r (fun k=>pw g (b+k)):=cT fun k hk=>if_pos hk;rw[hT]at f2;have hl3:=hx3.1;have hrl:=eC r (fun k=>pw g (b+k));(try simp only[aC]);refine bY ?_;refine aB (yT byO hg (iH (sp:=none) f2 hrl) (by rw[hrl];omega)) ?_;rintro v H4 ⟨hx4,vp,rfl,f4⟩;rw[hrl]at f4;have hgp:p7 (co (tab r (fun k=>pw g (b+k)))) r=p7 (fun i=>pw g (b+i)) r:=by
   unfold p7;rw[wR (fun i hi=>by rw[kl,if_pos hi])]
  rw[hgp]at f4;refine aL ?_;refine bU ?_;exact⟨hx3.trans hx4,_,rfl,f4⟩
end
end Go.Proofs.YtmnlgdpdgjbfgaaGreat
