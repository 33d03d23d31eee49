/- Lemmas. -/
import Derived.Test.YtmnlgdpdgjbfgaaGreatF10
import Derived.Test.YtmnlgdpdgjbfgaaGreatF20
import Derived.Test.YtmnlgdpdgjbfgaaGreatF21
set_option linter.all false
namespace Go.Proofs.YtmnlgdpdgjbfgaaGreat
open Go.Abs Go.RS
variable{H:Heap}{lo:Nat}{R:Value->Heap->Prop}{v:Value}
set_option maxRecDepth 20000
namespace XPa
def xtr:=zzi @Int.cast_ofNat_Int (zzi @fv.eq_1 (zzi @fvf.eq_1 (zzi @arC.eq_1 (zzi @nI (zzi @ea (zzi @jB (zzi @kx (zzi @ite_self.{1} (zzi @kf (zzi @ke @kc))))))))))
end XPa
open XPa
theorem pK{ch sz po:Int}{l:List Int}(hl:SlI H v l)(hll:l.length<=9223372036854775807):Ev cp lo 151 [fv ch sz po,v] H (fun v H'=>Ext H H'/\v=.bool (inF sz l)):=by
 have hl0:=hl;obtain⟨ad,c,rfl⟩:=hl.len;unfold fv;refine stG rfl rfl ?_;unfold LI;simp only[kB,aD];refine aA ?_;generalize hG:H++_=G at *;have g0:G.get H.length=some [.int .i64 ch,.int .i64 sz,.int .i64 po]:=by grind[aF]
 have hxG:Ext H G:=by grind[Ext.app]
 refine aS (fun i S H'=>G=H'/\inF sz (l.take i)=true/\∃(z:Nat->Value),S=[z 0,z 1,.pointer (some ⟨H.length,0,none⟩),.bool false,z 4,.slice ad l.length c,.int .i64 (l.length:Nat),.int .i64 (i:Nat)]) l.length ?_ ?_ ?_ ?_
 ·exact⟨rfl,rfl,aH rfl⟩
 ·rintro i S H' hi ⟨rfl,-,z,rfl⟩
  exact⟨_,aN,by simp⟩
 ·rintro i S H' hi ⟨rfl,hin,z,rfl⟩
  obtain⟨b,o,sp,cap,xs,e,gx,hat,hxl⟩:=hl0.els 0 byO;cases e;have gx:=hxG.get gx;have hati:=hat i hi;have hs:=fC (p:=fun x=>!(decide (x<0) || decide (sz<=x))) hi;clear hat;refine aA ?_;refine aP ?_ ?_<;>intro h
  ·have hno:inF sz l=false:=by
    grind[iV]
   refine aA ?_;exact⟨hxG,by rw[hno];rfl⟩
  ·have hin2:inF sz (l.take (i+1))=true:=by
    grind[inF]
   refine aA ?_;exact⟨by trivial,hin2,aH ncM⟩
 ·rintro S H' ⟨rfl,hin,z,rfl⟩
  rw[List.take_of_length_le (Nat.le_refl _)]at hin;refine aA ?_;refine aK ?_;exact⟨hxG,by rw[hin];rfl⟩
theorem Co{ch sz po:Int}{l:List Int}(hl:SlI H v l)(hll:l.length<=9223372036854775807):Ev cp lo 102 [fv ch sz po,v] H (fun v H'=>Ext H H'/\v=.bool (inF sz l)):=by
 have hl0:=hl;obtain⟨ad,c,rfl⟩:=hl.len;refine stG rfl rfl ?_;unfold Ke;simp only[kB];refine aA ?_;generalize hG:H++_=G at *;have g0:G.get H.length=some [.int .i64 ch,.int .i64 sz,.int .i64 po]:=by grind[aF]
 have hxG:Ext H G:=by grind[Ext.app]
 refine aS (fun i S H'=>G=H'/\inF sz (l.take i)=true/\∃(z:Nat->Value),S=[z 0,z 1,.pointer (some ⟨H.length,0,none⟩),.bool false,z 4,.slice ad l.length c,.int .i64 (l.length:Nat),.int .i64 (i:Nat)]) l.length ?_ ?_ ?_ ?_
 ·exact⟨rfl,rfl,aH rfl⟩
 ·rintro i S H' hi ⟨rfl,-,z,rfl⟩
  exact⟨_,aN,by simp⟩
 ·rintro i S H' hi ⟨rfl,hin,z,rfl⟩
  obtain⟨b,o,sp,cap,xs,e,gx,hat,hxl⟩:=hl0.els 0 byO;cases e;have gx:=hxG.get gx;have hs:=fC (p:=fun x=>!(decide (x<0) || decide (sz<=x))) hi;refine aA ?_;refine aP ?_ ?_<;>intro h
  ·have hno:inF sz l=false:=by
    grind[iV]
   refine aA ?_;exact⟨hxG,by rw[hno];rfl⟩
  ·have hin2:inF sz (l.take (i+1))=true:=by
    grind[inF]
   refine aA ?_;exact⟨by trivial,hin2,aH ncM⟩
 ·rintro S H' ⟨rfl,hin,z,rfl⟩
  rw[List.take_of_length_le (Nat.le_refl _)]at hin;refine aA ?_;exact⟨hxG,by rw[hin];rfl⟩
section
variable {f:FD}[OkC f]
def en(l:List (El f)):List Int:=l.map fun x=>(x.val:Int)
theorem oz{l:List (El f)}(h:SlE H v l):SlI H v (en l):=by
 rcases h with ⟨rfl,rfl⟩|⟨b,o,sp,cap,xs,h1,h2,h3,h4,h5⟩
 ·exact .inl ⟨rfl,rfl⟩
 ·refine .inr ⟨b,o,sp,cap,xs,by grind[en],h2,?_,by grind[en],by grind[en]⟩
  simp only[en,ay₀,List.map_map];exact h3
theorem gj(l:List (El f)):inF (f.q:Int) (en l)=true:=by
 rw[iV];intro x hx;obtain⟨y,_,rfl⟩:=List.mem_map.1 hx
 simp_all[El.lt]
theorem dX(l:List (El f)):(en l).length=l.length:=by simp[en]
set_option maxHeartbeats 1000000 in
theorem I2{be bl:Nat}{g:El f}{vp:Value}{p:List (El f)}(hlo:lo<=H.length)(hg:Gn (OkC.ok (f:=f)) g)(ha:ArH H g be bl)(hp:SlE H vp p)(hpl:p.length<=100000000)(r:El f) :
  Ev cp lo 152 [arV f be bl,vp,.int .i64 (r.val:Nat),.int .i64 0] H (fun v H'=>Ext H H'/\∃b,H.length<=b/\v=.slice (some ⟨b,0,none⟩) (p.length+1) (p.length+1)/\H'.get b=some (elL (tab (p.length+1) (cv (co p) (mon r))))):=by
 have hp0:=hp;obtain⟨ap,cp',rfl⟩:=hp.len;have hz0:((0:El f).val:Int)=0:=rfl;have hcast:((p.length:Int)+1)=((p.length+1:Nat):Int):=byO;unfold arV;refine stG rfl rfl ?_;unfold LJ;simp only[kB,aD];refine aA ?_;generalize hG:H++_=G at *;have g0:G.get H.length=some (arC f be bl):=by rw[<-hG];exact aF
 have g1:G.get (H.length+1)=some (elL (tab (p.length+1) (fun _=>(0:El f)))):=by
  rw[<-hG,bC,<-fJ];show some _=some _;congr 1;simp[elL,aW,pL,List.replicate_succ,CW]
 have hxG:Ext H G:=by rw[<-hG];exact Ext.app _ _
 clear hG hcast;refine aS (fun i S H'=>Ext H H'/\H'.get H.length=some (arC f be bl)/\H'.get (H.length+1)=some (elL (tab (p.length+1) (fun k=>if k<i then cv (co p) (mon r) k else if k=i/\0<i then co p (i-1) else 0)))/\∃(z:Nat->Value),S=[z 0,z 1,.int .i64 (r.val:Nat),z 3,.pointer (some ⟨H.length,0,none⟩),.slice none 0 0,.slice (some ⟨H.length+1,0,none⟩) (p.length+1) (p.length+1),z 7,z 8,z 9,.slice ap p.length cp',.int .i64 (p.length:Nat),.int .i64 (i:Nat),z 13,z 14,z 15,z 16,z 17,z 18]) p.length ?_ ?_ ?_ ?_
 ·refine⟨hxG,g0,?_,aH rfl⟩
  rw[g1];refine congrArg (fun t=>some (elL t)) ?_;refine bM fun k _=>?_;rw[if_neg byO,if_neg byO]
 ·rintro i S H' hi ⟨hx,f0,f1,z,rfl⟩
  exact⟨_,aN,by simp⟩
 ·clear g0 g1 hxG
  rintro i S H1 hi ⟨hx1,f0,f1,z,rfl⟩;obtain⟨b,o,sp,cap,xs,e,gx,hat,hxl⟩:=gV hp0 byO;cases e;have gx:=hx1.get gx;have hati:=hat i hi;have hget:(tab (p.length+1) (fun k=>if k<i then cv (co p) (mon r) k else if k=i/\0<i then co p (i-1) else 0)).getD i 0-co p i*r=cv (co p) (mon r) i:=by
   rw[ll byO,if_neg byO];cases i with
   | zero=>rw[if_neg byO,xW];exact(show(0-(co p 0*r))=(-(co p 0*r)) from cY [(co p 0*r)] (.add .zero (.neg (.v 0))) (.neg (.v 0)) rfl)
   | succ i=>rw[if_pos ⟨rfl,byO⟩,zg];rfl
  have hset:((tab (p.length+1) (fun k=>if k<i then cv (co p) (mon r) k else if k=i/\0<i then co p (i-1) else 0)).set i (cv (co p) (mon r) i)).set (i+1) (co p i)=tab (p.length+1) (fun k=>if k<i+1 then cv (co p) (mon r) k else if k=i+1/\0<i+1 then co p (i+1-1) else 0):=by
   rw[j6,j6];refine bM fun k hk=>?_;by_cases e:k=i+1
   ·rw[if_pos e,if_neg byO,if_pos ⟨e,byO⟩,Nat.add_sub_cancel]
   ·rw[if_neg e]
    by_cases e2:k=i
    ·rw[if_pos e2,if_pos byO,e2]
    ·rw[if_neg e2]
     by_cases h2:k<i
     ·rw[if_pos h2,if_pos byO]
     ·rw[if_neg h2,if_neg byO,if_neg byO,if_neg byO]
  have hlen2:(tab (p.length+1) (fun k=>if k<i then cv (co p) (mon r) k else if k=i/\0<i then co p (i-1) else 0)).length<=p.length+1/\p.length+1<=(tab (p.length+1) (fun k=>if k<i then cv (co p) (mon r) k else if k=i/\0<i then co p (i-1) else 0)).length:=by rw[bp];omega
  generalize tab (p.length+1) (fun k=>if k<i then cv (co p) (mon r) k else if k=i/\0<i then co p (i-1) else 0)=T at *;have hi1:((i:Int)+1)=((i+1:Nat):Int):=byO;have hl1:=Heap.get_lt f1;clear hat;refine aA ?_;refine aT ?_;refine bS (Rf hg (ha.mono hx1) (co p i) r) ?_;rintro v H2 ⟨hx2,rfl⟩;have f0:=(hx2).get f0;have f1:=(hx2).get f1;have hx2:=hx1.trans hx2;refine bF ?_;refine aC (TF (T.getD i 0) (co p i*r)) ?_;rintro v H3 ⟨hx3,rfl⟩;rw[hget];have f0:=(hx3).get f0;have f1:=(hx3).get f1;have hx3:=hx2.trans hx3;have hl3:=Heap.get_lt f1;clear hget;refine aA ?_;refine⟨(hx3.set (by omega)).set (by omega),by simp(disch:=try exact dO)only[evB,xtr,Nat.reduceAdd,Nat.reduceBEq,Int.reduceToNat, *],?_,aH ncM⟩;rw[aG (by simp;omega)]
 ·rintro S H1 ⟨hx1,f0,f1,z,rfl⟩
  refine aA ?_;refine aK ?_;refine⟨hx1,H.length+1,byO,rfl,?_⟩;rw[f1];refine congrArg (fun t=>some (elL t)) ?_;refine bM fun k hk=>?_;by_cases h1:k<p.length
  ·rw[if_pos h1]
  ·have hk2:k=p.length:=byO
   rw[if_neg h1];subst hk2;cases hpl':p.length with
   | zero=>
    rw[if_neg byO,xW,iL byO,zero_mul,neg_zero]
   | succ n=>
    rw[if_pos ⟨rfl,byO⟩,zg,iL (l:=p) (i:=n+1) byO,zero_mul];show co p n=co p n-0;exact(show(co p n)=((co p n)-0) from cY [(co p n)] (.v 0) (.add (.v 0) (.neg .zero)) rfl)
end
open Go.Abs Go.RS
section
variable {f:FD}[OkC f]
theorem Jz:Ev cp lo 105 [fvf f,.slice none 0 0] H (fun v H'=>Ext H H'/\v=.bool true):=by
 unfold fvf fv;refine stG rfl rfl ?_;unfold EF;simp only[kB,aD];refine aA ?_;refine aT ?_;refine aC (valid (ch:=FD.ch f) (sz:=f.q) (po:=f.poly) (j4 (OkC.ok (f:=f)))) ?_;rintro v H1 ⟨hx1,b,rfl,hb⟩;have hbt:b=true:=hb.2 (kA (OkC.ok (f:=f)));subst hbt;have hx1:=hx1.of_app;(try simp only[aD]);refine an ?_;refine aA ?_;refine aS (fun i S H'=>H1=H'/\∃(z:Nat->Value),S=[z 0,z 1,z 2,.bool false,z 4,z 5,z 6,.slice none 0 0,.int .i64 0,.int .i64 0,z 10,z 11]) 0 ?_ ?_ ?_ ?_
 ·exact⟨rfl,aH rfl⟩
 ·rintro i S H' hi ⟨rfl,z,rfl⟩
  exact⟨_,aN,by simp⟩
 ·rintro i S H' hi _
  omega
 ·rintro S H' ⟨rfl,z,rfl⟩
  refine aA ?_;refine aK ?_;exact⟨hx1,rfl⟩
structure PolyOK (l:List (El f)):Prop where
 len:l.length<=4097
 last:l.length=0\/co l (l.length-1)≠0
set_option maxHeartbeats 1000000 in
theorem KA{vp vq:Value}{p q:List (El f)}{bb:Nat}(hp:SlE H vp p)(hq:SlE H vq q)(hpo:PolyOK p)(hqo:PolyOK q)(hb:H.get bb=some [vp,vq]):Ev cp lo 105 [fvf f,.slice (some ⟨bb,0,none⟩) 2 2] H (fun v H'=>Ext H H'/\v=.bool true):=by
 unfold fvf fv;refine stG rfl rfl ?_;unfold EF;simp only[kB,aD];refine aA ?_;refine aT ?_;refine aC (valid (ch:=FD.ch f) (sz:=f.q) (po:=f.poly) (j4 (OkC.ok (f:=f)))) ?_;rintro v H1 ⟨hx1,b,rfl,hbv⟩;have hbt:b=true:=hbv.2 (kA (OkC.ok (f:=f)));subst hbt;have g0:H1.get H.length=some _:=hx1.get aN;have hx1:=hx1.of_app;have hb:=hx1.get hb;(try simp only[aD]);refine an ?_;refine aA ?_;refine aS (fun i S H'=>Ext H1 H'/\∃(z:Nat->Value),S=[z 0,z 1,.pointer (some ⟨H.length,0,none⟩),.bool false,z 4,z 5,z 6,.slice (some ⟨bb,0,none⟩) 2 2,.int .i64 2,.int .i64 (i:Nat),z 10,z 11]) 2 ?_ ?_ ?_ ?_
 ·exact⟨Ext.refl _,aH rfl⟩
 ·rintro i S H' hi ⟨hx,z,rfl⟩
  exact⟨_,aN,by simp;try omega⟩
 ·rintro i S H2 hi ⟨hx2,z,rfl⟩
  have f0:=hx2.get g0;have fb:=hx2.get hb;obtain⟨vi,li,hgi,hsl,hok⟩:∃(vi:Value) (li:List (El f)),[vp,vq][i]?=some vi/\SlE H vi li/\PolyOK li:=by
   have:i=0\/i=1:=byO;rcases this with rfl|rfl
   ·exact⟨vp,p,rfl,hp,hpo⟩
   ·exact⟨vq,q,rfl,hq,hqo⟩
  have hsl2:=hsl.mono (hx1.trans hx2);have hsl3:=hsl2;obtain⟨ai,ci,rfl⟩:=hsl.len;have hlen:=hok.len;generalize hvl:[vp,vq]=VL at *;have hVl:VL.length<=2/\2<=VL.length:=by rw[<-hvl];simp
  clear hvl hp hq;refine aA ?_;by_cases hz:li.length=0
  ·have hz1:¬ (4097:Int)<li.length:=byO
   have hz2:¬ (0:Int)<li.length:=byO;clear hz;refine aU (t:=true) aN dP e9 (fun _=>⟨_,aN,?_⟩) (fun h=>by cases h);refine aC (pK (ch:=FD.ch f) (sz:=f.q) (po:=f.poly) (oz hsl3) (by rw[dX];omega)) ?_;rintro v H3 ⟨hx3,rfl⟩;rw[gj];(try simp only[aD]);refine an ?_;refine aA ?_;exact⟨hx2.trans hx3,aH ncM⟩
  ·have hlast:=hok.last.resolve_left hz
   obtain⟨b',o,sp,cap,xs,e,gx,hat,hxl⟩:=gV hsl2 byO;cases e;have hati:=hat (li.length-1) byO;have e1:((li.length:Int)-1)=((li.length-1:Nat):Int):=byO;have hz1:¬ (4097:Int)<li.length:=byO;have hz2:(0:Int)<li.length:=byO;have hnz:¬ ((co li (li.length-1)).val:Int)=0:=by have:=yP hlast;omega
   clear hat;refine aU (t:=true) aN dP e9 (fun _=>⟨_,aN,?_⟩) (fun h=>by cases h);refine aC (pK (ch:=FD.ch f) (sz:=f.q) (po:=f.poly) (oz hsl3) (by rw[dX];omega)) ?_;rintro v H3 ⟨hx3,rfl⟩;rw[gj];(try simp only[aD]);refine an ?_;refine aA ?_;exact⟨hx2.trans hx3,aH ncM⟩
 ·rintro S H2 ⟨hx2,z,rfl⟩
  refine aA ?_;refine aK ?_;exact⟨hx1.trans hx2,rfl⟩
theorem zu{g:El f}{rs:List (El f)}(hlo:lo<=H.length)(hg:Gn (OkC.ok (f:=f)) g)(hr:SlE H v rs)(hrl:rs.length<=4096) :
  Ev cp lo 104 [fvf f,v] H (fun v H'=>Ext H H'/\∃vp,v=.tuple #[vp,.int .i64 0]/\SlE H' vp (lC (co rs) rs.length)):=by
 have hr0:=hr;obtain⟨ar,cr,rfl⟩:=hr.len;unfold fvf fv;refine stG rfl rfl ?_;unfold Kg;simp only[kB,aD];refine aA ?_;refine aT ?_;refine aC (Jz (f:=f)) ?_;rintro v H1 ⟨hx1,rfl⟩;have g0:H1.get H.length=some _:=hx1.get aN;have hx1:=hx1.of_app;have hl1:=hx1.1;(try simp only[aD]);refine aU (t:=true) aN dP e9 (fun _=>⟨_,aN,?_⟩) (fun h=>by cases h);refine aC (pK (ch:=FD.ch f) (sz:=f.q) (po:=f.poly) (oz (hr0.mono hx1)) (by rw[dX];omega)) ?_;rintro v H2 ⟨hx2,rfl⟩;rw[gj];have g0:=hx2.get g0;have hx2:=hx1.trans hx2;have hl2:=Heap.get_lt g0;(try simp only[aD]);refine an ?_;(try simp only[aD]);refine aP ?_ ?_<;>intro h
 ·simp at h;omega
 clear h;refine bF ?_;refine aC (uZ (f:=f) byO hg) ?_;rintro v H3 ⟨hx3,be,bl,hbe,hbl,rfl,harith⟩;have hx3:=hx2.trans hx3;have hl3:=hx3.1;unfold arV;refine aA ?_;generalize hG:H3++_=G at *;have g1:G.get H3.length=some (arC f be bl):=by rw[<-hG];exact aF
 have g2:G.get (H3.length+1)=some (elL (lC (co rs) 0)):=by rw[<-hG,bC];rfl
 have hxG:Ext H3 G:=by rw[<-hG];exact Ext.app _ _
 have harith:=harith.mono hxG;clear hG;have hxG:=hx3.trans hxG;generalize H3.length=p3 at *;refine aS (fun i S H'=>Ext G H'/\∃bb,H'.get bb=some (elL (lC (co rs) i))/\∃(z:Nat->Value),S=[z 0,z 1,.pointer (some ⟨H.length,0,none⟩),.slice none 0 0,.int .i64 0,.pointer (some ⟨p3,0,none⟩),.slice (some ⟨bb,0,none⟩) (i+1) (i+1),z 7,z 8,z 9,z 10,z 11,z 12,.slice ar rs.length cr,.int .i64 (rs.length:Nat),.int .i64 (i:Nat),z 16]) rs.length ?_ ?_ ?_ ?_
 ·exact⟨Ext.refl _,p3+1,g2,aH rfl⟩
 ·rintro i S H' hi ⟨hx,bb,fb,z,rfl⟩
  exact⟨_,aN,by simp⟩
 ·clear g2
  rintro i S H4 hi ⟨hx4,bb,fb,z,rfl⟩;have hl4:=(hxG.trans hx4).1;obtain⟨b',o,sp,cap,xs,e,gx,hat,hxl⟩:=gV hr0 byO;cases e;have gx:=(hxG.trans hx4).get gx;have f1:=hx4.get g1;have hati:=hat i hi;have hgl:=jv (co rs) i;have hs1:=ei (sp:=none) fb hgl;clear hat;refine aA ?_;refine aT ?_;refine aC (I2 byO hg (harith.mono hx4) hs1 (by rw[hgl];omega) (co rs i)) ?_;rintro v H5 ⟨hx5,b5,hb5,rfl,f5⟩;rw[hgl]at f5 ⊢;have hgen:tab (i+1+1) (cv (co (lC (co rs) i)) (mon (co rs i)))=lC (co rs) (i+1):=by rw[ny];rfl
  rw[hgen]at f5;have hx5:=hx4.trans hx5;clear hgl;refine aA ?_;exact⟨hx5,b5,f5,aH ncM⟩
 ·rintro S H4 ⟨hx4,bb,fb,z,rfl⟩
  refine aA ?_;refine aK ?_;refine⟨hxG.trans hx4,_,rfl,?_⟩;exact ei (sp:=none) fb (jv _ _)
end
section
variable {f:FD}[OkC f]
theorem Dj{z:List Value}{b o c:Nat}{sp:Option Nat}{xs:List Value}(hb:H.get b=some xs)(ho:o<=xs.length)(k:R (.slice none 0 0) H):wpH cp lo (.app 1 z) [.slice none 0 0,.slice (some ⟨b,o,sp⟩) 0 c] H R:=by
 simp only[wpH,cK,hsem,Heap.cells,hb,Nat.zero_mul,Nat.add_zero,ho,if_true,ao₀,List.take_zero,oneCells,List.all_nil,aZ,Nat.le_refl];exact k
theorem n8{z:List Value}{c:Nat}(k:R (.slice none 0 0) H):wpH cp lo (.app 1 z) [.slice none 0 0,.slice none 0 c] H R:=by
 simp only[wpH,cK,hsem,if_true,aZ,Nat.add_zero,Nat.le_refl];exact k
theorem kL{z:List Value}{b o c n:Nat}{sp:Option Nat}{xs:List Value}{l:List (El f)}(hlo:lo<=H.length)(hb:H.get b=some xs)(ho:o+n<=xs.length)(hx:(xs.drop o).take n=elL l)(hn:n<=4000000000)
  (k:∀v' H',Own lo 1 H' v' H.length (elL l)->Ext H H'->R v' H'):wpH cp lo (.app 1 z) [.slice none 0 0,.slice (some ⟨b,o,sp⟩) n c] H R:=by
 have hll:l.length=n:=by
  have:=congrArg List.length hx;rw[ea,List.length_take,List.length_drop]at this;omega
 by_cases h0:n=0
 ·subst h0
  have:l=[]:=List.length_eq_zero_iff.1 hll;subst this;exact Dj hb byO (k _ _ (Own.nil hlo) (Ext.refl _))
 ·refine di (b:=H.length) (cells:=[]) (c:=elL l) (Own.nil hlo) hlo byO byO (by simp;omega) hb byO (by rw[Nat.mul_one];exact hx) (BM l) ?_
  intro v' H' h1 h2 h3;exact k v' H' (by simpa using h1) ⟨byO,fun i hi=>h2.eq i hi byO⟩
theorem yu{xs:List Value}{o n:Nat}{p:List (El f)}(h:(xs.drop o).take p.length=p.map pL)(hn:n<=p.length):(xs.drop o).take n=elL (p.take n):=by
 have:((xs.drop o).take p.length).take n=(p.map pL).take n:=by rw[h]
 rw[List.take_take,Nat.min_eq_left hn,<-List.map_take]at this;exact this
theorem HZ{p:List (El f)}(hlo:lo<=H.length)(hp:SlE H v p)(hpl:p.length<=100000000):Ev cp lo 62 [v] H (fun v H'=>Ext H H'/\SlE H' v (trim p)):=by
 rcases hp with ⟨rfl,rfl⟩|⟨b,o,sp,cap,xs,rfl,hb,hx,hxl,hsp,hcap⟩
 ·refine stG rfl rfl ?_;unfold Mz;simp only[kB,aD]
  refine aA ?_;refine aY (fun m S H'=>H=H'/\S=[.slice none 0 0,.slice none 0 0,.int .i64 0,undef]) 0 ⟨rfl,rfl⟩ ?_;rintro m S H' ⟨rfl,rfl⟩;(try simp only[aD]);refine aP ?_ ?_<;>intro h
  ·simp at h
  clear h;refine bF ?_;refine n8 ?_;refine aA ?_;refine aK ?_;exact⟨Ext.refl _,.inl ⟨rfl,rfl⟩⟩
 have hat:∀i,i<p.length->xs[o+i]?=some (.int .i64 ((co p i).val:Nat)):=by
  intro i hi;have e:((xs.drop o).take p.length)[i]?=(p.map pL)[i]?:=by rw[hx]
  rw[List.getElem?_take,if_pos hi,List.getElem?_drop]at e;rw[e,az₀,bc₀ hi,tu hi];rfl
 refine stG rfl rfl ?_;unfold Mz;simp only[kB,aD];refine aA ?_;refine aY (fun m S H'=>H=H'/\m<=p.length/\(∀i,m<=i->co p i=0)/\∃z3,S=[.slice (some ⟨b,o,sp⟩) p.length cap,.slice none 0 0,.int .i64 (m:Nat),z3]) p.length ?_ ?_
 ·exact⟨rfl,Nat.le_refl _,fun i hi=>iL hi,_,rfl⟩
 rintro m S H' ⟨rfl,hm,hz,z3,rfl⟩;have hfin:(∀v' H',Own lo 1 H' v' H.length (elL (p.take m))->Ext H H'->trim p=p.take m->Ext H H'/\SlE H' v' (trim p)):=by
  intro v' H' h1 h2 h3;exact⟨h2,by rw[h3];exact Sl.ofOwn h1⟩
 by_cases hm0:m=0
 ·subst hm0
  (try simp only[aD]);refine aP ?_ ?_<;>intro h
  ·simp at h
  clear h;have ht:trim p=p.take 0:=by rw[<-uy (n:=0) byO hz];rfl
  (try simp only[aD]);rcases hsp with rfl|rfl
  ·refine aT ?_
   refine kL (l:=p.take 0) hlo hb (by simp;omega) (by simp[elL]) (by simp) ?_;intro v' H' h1 h2;refine aA ?_;refine aK ?_;exact hfin v' H' h1 h2 ht
  ·refine aT ?_
   refine kL (l:=p.take 0) hlo hb (by simp;omega) (by simp[elL]) (by simp) ?_;intro v' H' h1 h2;refine aA ?_;refine aK ?_;exact hfin v' H' h1 h2 ht
 have hati:=hat (m-1) byO;have e1:((m:Int)-1)=((m-1:Nat):Int):=byO;have hmp:(0:Int)<m:=byO;(try simp only[aD]);refine aP ?_ ?_<;>intro h
 ·have hc:co p (m-1)=0:=jV (by simp at h;omega)
  clear h;clear hat hati;refine aA ?_;simp only[ak];refine⟨m-1,byO,by trivial,byO,fun i hi=>?_,_,rfl⟩;by_cases e:i=m-1
  ·rw[e];exact hc
  ·exact hz i byO
 ·have hc:co p (m-1)≠0:=fun e=>by rw[e,CW]at h;simp at h;try omega
  clear h;have ht:trim p=p.take m:=by
   rw[<-uy hm hz];have:=Dg (l:=p) (n:=m-1) byO hc;rwa [show m-1+1=m by omega]at this
  clear hat hati e1;(try simp only[aD]);rcases hsp with rfl|rfl
  ·refine aT ?_
   refine kL (l:=p.take m) hlo hb (by first|omega|(simp;omega)) (by simpa using yu hx hm) (by first|omega|(simp;omega)) ?_;intro v' H' h1 h2;refine aA ?_;refine aK ?_;exact hfin v' H' h1 h2 ht
  ·refine aT ?_
   refine kL (l:=p.take m) hlo hb (by first|omega|(simp;omega)) (by simpa using yu hx hm) (by first|omega|(simp;omega)) ?_;intro v' H' h1 h2;refine aA ?_;refine aK ?_;exact hfin v' H' h1 h2 ht
end
section
variable {f:FD}[OkC f]
structure DivR (p q R:List (El f))(Q:Ser (El f))(m:Nat):Prop where
 len:R.length=p.length
 eq:∀k,co p k=cv Q (co q) k+co R k
 top:∀k,m<=k->co R k=0
 qz:∀k,p.length<=k->Q k=0
set_option maxHeartbeats 4000000 in
theorem IT{be bl:Nat}{g:El f}{vp vq:Value}{p q:List (El f)}(hlo:lo<=H.length)(hg:Gn (OkC.ok (f:=f)) g)(ha:ArH H g be bl)(hp:SlE H vp p)(hq:SlE H vq q)(hpl:p.length<=10000000)(hql:q.length<=10000000)(hq0:0<q.length)(hqt:co q (q.length-1)≠0) :
  Ev cp lo 107 [arV f be bl,vp,vq] H (fun v H'=>Ext H H'/\∃vt vr R Q,v=.tuple #[vt,vr]/\SlE H' vr (trim R)/\DivR p q R Q (q.length-1)):=by
 have hp0:=hp;have hq0':=hq;obtain⟨b',o',sp',capq,ys,eq',gy,hay,hyl⟩:=gV hq hq0;cases eq';have hby:=Heap.get_lt gy;have hcopy:∀(G:Heap) (R:Value->Heap->Prop) (z:List Value),Ext H G->(∀v' H',Own lo 1 H' v' G.length (elL p)->Ext G H'->R v' H')->wpH cp lo (.app 1 z) [.slice none 0 0,vp] G R:=by
  intro G R z hG k;rcases hp with ⟨rfl,rfl⟩|⟨b,o,sp,cap,xs,rfl,hb,hx,hxl,_⟩
  ·exact n8 (k _ _ (Own.nil (Nat.le_trans hlo hG.1)) (Ext.refl _))
  ·exact kL (Nat.le_trans hlo hG.1) (hG.get hb) hxl hx byO k
 obtain⟨ap,capp,rfl⟩:=hp0.len;have htop:((q.length:Int)-1)=((q.length-1:Nat):Int):=byO;unfold arV;refine stG rfl rfl ?_;unfold Ki;simp only[kB,aD];refine aA ?_;generalize hG:H++_=G at *;have g0:G.get H.length=some (arC f be bl):=by rw[<-hG];exact aF
 have hxG:Ext H G:=by rw[<-hG];exact Ext.app _ _
 have hGl:G.length=H.length+1:=by rw[<-hG];simp
 clear hG;refine aT ?_;refine hcopy G _ _ hxG ?_;intro v5 H1 hown hx1;clear hcopy;have g0:=hx1.get g0;have hx1:=hxG.trans hx1;have hl1:=hx1.1;rw[hGl]at hown;clear hxG hGl;refine aA ?_;generalize htE:q.length-1=top at *;by_cases hlen:top<p.length;rotate_left
 ·
  refine aP ?_ ?_<;>intro h
  ·simp at h;omega
  clear h;refine aA ?_;refine aY (fun m S H'=>H1=H'/\∃z4 z5 z6 z7:Value,m=0/\z4=.slice none 0 0/\v5=z5/\z7=.int .i64 (-1)/\∃z0 z1 z2 z3 z8 z9 z10 z11 z12 z13 z14 z15 z16 z17 z18 z19 z20 z21 z22 z23 z24,S=[z0,z1,z2,z3,z4,z5,z6,z7,z8,z9,z10,z11,z12,z13,z14,z15,z16,z17,z18,z19,z20,z21,z22,z23,z24]) 0 ⟨rfl,_,_,_,_,rfl,rfl,rfl,rfl,_,_,_,_,_,_,_,_,_,_,_,_,_,_,_,_,_,_,_,_,_,rfl⟩ ?_;rintro m S H' ⟨rfl,z4,z5,z6,z7,rfl,rfl,rfl,rfl,z0,z1,z2,z3,z8,z9,z10,z11,z12,z13,z14,z15,z16,z17,z18,z19,z20,z21,z22,z23,z24,rfl⟩;(try simp only[aD]);refine an ?_;have hsl:SlE H1 v5 p:=Sl.ofOwn hown;refine bF ?_;refine aC (HZ byO hsl byO) ?_;rintro v H2 ⟨hx2,hs2⟩;refine aA ?_;refine aK ?_;refine⟨hx1.trans hx2,_,_,p,fun _=>0,rfl,hs2,rfl,fun k=>?_,fun k hk=>iL byO,fun _ _=>rfl⟩;rw[qe,BI];exact(zero_add _).symm
 obtain⟨hb5,⟨_,e⟩|⟨n5,hn5,hn5l,rfl,f5⟩⟩:=hown
 ·exfalso
  have:=congrArg List.length e;rw[ea,an₀]at this;omega
 rw[ea,Nat.mul_one]at hn5l;subst hn5l;have hsub:((p.length:Int)-(top:Int))=((p.length-top:Nat):Int):=byO;refine aP ?_ ?_<;>intro h;rotate_left
 ·exfalso;simp at h;try omega
 clear h;refine aA ?_;generalize hM:H1.length=M at *;have hb5M:=Heap.get_lt f5;rw[hM]at hb5M;have hm1:(((p.length-top:Nat):Int)-1)=((p.length-top:Nat):Int)-1:=rfl;clear hsub;refine aY (fun i S H'=>Ext H H'/\i<=p.length-top/\H'.get H.length=some (arC f be bl)/\∃(R Qv:List (El f)) (Q:Ser (El f)),H'.get (H.length+1)=some (elL R)/\H'.get M=some (elL Qv)/\Qv.length=p.length-top/\DivR p q R Q (i+top)/\∃(z:Nat->Value),S=[z 0,z 1,.slice (some ⟨b',o',sp'⟩) q.length capq,.pointer (some ⟨H.length,0,none⟩),.slice (some ⟨M,0,none⟩) (p.length-top) (p.length-top),.slice (some ⟨H.length+1,0,some 1⟩) p.length p.length,.int .i64 (top:Nat),.int .i64 ((i:Nat)-1),z 8,z 9,z 10,z 11,z 12,z 13,z 14,z 15,z 16,z 17,z 18,z 19,z 20,z 21,z 22,z 23,z 24]) (p.length-top) ?_ ?_
 ·refine⟨hx1.trans (Ext.app _ _),Nat.le_refl _,by simp(disch:=try exact dO)only[evB,xtr,Nat.reduceAdd,Nat.reduceBEq,Int.reduceToNat, *],p,List.replicate (p.length-top) 0,fun _=>0,by simp(disch:=try exact dO)only[evB,xtr,Nat.reduceAdd,Nat.reduceBEq,Int.reduceToNat, *],by rw[<-hM,aF],by simp,⟨rfl,fun k=>?_,fun k hk=>iL (by omega),fun _ _=>rfl⟩,aH rfl⟩
  rw[qe,BI];exact(zero_add _).symm
 clear g0 f5 hm1;rintro m S H2 ⟨hx2,hmle,f0,R,Qv,Q,f5,fM,hQl,hdiv,z,rfl⟩;by_cases hm0:m=0
 ·subst hm0
  (try simp only[aD]);refine an ?_;have hRl:=hdiv.len;have hl2:=hx2.1;have hsl:SlE H2 (.slice (some ⟨H.length+1,0,some 1⟩) p.length p.length) R:=ei f5 hRl;refine bF ?_;refine aC (HZ byO hsl byO) ?_;rintro v H3 ⟨hx3,hs3⟩;refine aA ?_;refine aK ?_;rw[Nat.zero_add]at hdiv;exact⟨hx2.trans hx3,_,_,R,Q,rfl,hs3,hdiv⟩
 obtain⟨i,rfl⟩:∃i,m=i+1:=⟨m-1,byO⟩;have e1:(((i+1:Nat):Int)-1)=(i:Int):=byO;rw[e1];have hRl:=hdiv.len;have hRl2:R.length<=p.length/\p.length<=R.length:=byO;have hQl2:Qv.length<=p.length-top/\p.length-top<=Qv.length:=byO;have gy2:=hx2.get gy;have hat:=hay top byO;have hit:((i:Int)+(top:Int))=((i+top:Nat):Int):=byO;have hcoR:R.getD (i+top) 0=co R (i+top):=rfl;have hl2:=hx2.1;clear hm0;(try simp only[aD]);refine aP ?_ ?_<;>intro h;rotate_left
 ·exfalso;simp at h;try omega
 clear h;refine aA ?_;refine aT ?_;refine aC (Tu hg (ha.mono hx2) (co R (i+top)) (co q top) hqt) ?_;rintro v H3 ⟨hx3,rfl⟩;have f0:=(hx3).get f0;have f5:=(hx3).get f5;have fM:=(hx3).get fM;have gy2:=(hx3).get gy2;have hx3:=hx2.trans hx3;have hMl:=Heap.get_lt fM;generalize hc:co R (i+top)*inv (co q top)=c at *;clear hat hit hcoR;refine aA ?_;generalize hG4:List.set H3 M _=H4 at *;have f0:Heap.get H4 H.length=some (arC f be bl):=by rw[<-hG4,aI byO];exact f0
 have f5:Heap.get H4 (H.length+1)=some (elL R):=by rw[<-hG4,aI byO];exact f5
 have fM:Heap.get H4 M=some (elL (Qv.set i c)):=by rw[<-hG4,aG byO]
 have hx4:Ext H H4:=by rw[<-hG4];exact hx3.set byO
 have hQl3:(Qv.set i c).length=p.length-top:=by rw[List.length_set];exact hQl
 generalize Qv.set i c=Qv' at *;clear hG4 hx3 hMl hQl hQl2 gy2;refine aS (fun j S H'=>Ext H H'/\H'.get H.length=some (arC f be bl)/\H'.get (H.length+1)=some (elL (tab p.length (fun k=>if i<=k/\k<i+j then co R k-c*co q (k-i) else co R k)))/\H'.get M=some (elL Qv')/\∃(z:Nat->Value),S=[z 0,z 1,.slice (some ⟨b',o',sp'⟩) q.length capq,.pointer (some ⟨H.length,0,none⟩),.slice (some ⟨M,0,none⟩) (p.length-top) (p.length-top),.slice (some ⟨H.length+1,0,some 1⟩) p.length p.length,.int .i64 (top:Nat),.int .i64 (i:Nat),.int .i64 (c.val:Nat),z 9,z 10,z 11,z 12,z 13,.slice (some ⟨b',o',sp'⟩) q.length capq,.int .i64 (q.length:Nat),.int .i64 (j:Nat),z 17,z 18,z 19,z 20,z 21,z 22,z 23,z 24]) q.length ?_ ?_ ?_ ?_
 ·refine⟨hx4,f0,?_,fM,aH rfl⟩
  rw[f5];refine congrArg (fun t=>some (elL t)) ?_;refine Aj hRl fun k _=>?_;rw[if_neg byO]
 ·rintro j S H' hj ⟨hx,f0,f5,fM,z,rfl⟩
  exact⟨_,aN,by simp⟩
 ·clear f0 f5 fM hx4
  rintro j S H4 hj ⟨hx4,f0,f5,fM,z,rfl⟩;have gy2:=hx4.get gy;have hayj:=hay j hj;have hget:(tab p.length (fun k=>if i<=k/\k<i+j then co R k-c*co q (k-i) else co R k)).getD (i+j) 0=co R (i+j):=by rw[ll byO,if_neg byO]
  have hset:(tab p.length (fun k=>if i<=k/\k<i+j then co R k-c*co q (k-i) else co R k)).set (i+j) (co R (i+j)-c*co q j)=tab p.length (fun k=>if i<=k/\k<i+(j+1) then co R k-c*co q (k-i) else co R k):=by
   rw[j6];refine bM fun k hk=>?_;by_cases e:k=i+j
   ·rw[if_pos e,if_pos byO,e,show i+j-i=j by omega]
   ·rw[if_neg e]
    by_cases h2:i<=k/\k<i+j
    ·rw[if_pos h2,if_pos byO]
    ·rw[if_neg h2,if_neg byO]
  have hlen2:(tab p.length (fun k=>if i<=k/\k<i+j then co R k-c*co q (k-i) else co R k)).length<=p.length/\p.length<=(tab p.length (fun k=>if i<=k/\k<i+j then co R k-c*co q (k-i) else co R k)).length:=by rw[bp];omega
  generalize tab p.length (fun k=>if i<=k/\k<i+j then co R k-c*co q (k-i) else co R k)=T at *;have hin:((i:Int)+(j:Int))=((i+j:Nat):Int):=byO;have hl4:=Heap.get_lt f5;refine aA ?_;refine aT ?_;refine bS (Rf hg (ha.mono hx4) c (co q j)) ?_;rintro v H5 ⟨hx5,rfl⟩;have f0:=(hx5).get f0;have f5:=(hx5).get f5;have fM:=(hx5).get fM;have hx5:=hx4.trans hx5;refine bF ?_;refine aC (TF (co R (i+j)) (c*co q j)) ?_;rintro v H6 ⟨hx6,rfl⟩;have f0:=(hx6).get f0;have f5:=(hx6).get f5;have fM:=(hx6).get fM;have hx6:=hx5.trans hx6;have hl6:=Heap.get_lt f5;clear hget;refine aA ?_;exact⟨hx6.set (by omega),by simp(disch:=try exact dO)only[evB,xtr,Nat.reduceAdd,Nat.reduceBEq,Int.reduceToNat, *],by rw[aG (by omega)],by simp(disch:=try exact dO)only[evB,xtr,Nat.reduceAdd,Nat.reduceBEq,Int.reduceToNat, *],aH ncM⟩
 ·clear f0 f5 fM hx4
  rintro S H4 ⟨hx4,f0,f5,fM,z,rfl⟩;refine aA ?_;simp only[ak];refine⟨i,byO,hx4,byO,f0,_,Qv',fun k=>Q k+c*sh i (s1:Ser (El f)) k,f5,fM,hQl3,⟨bp _ _,fun k=>?_,fun k hk=>?_,fun k hk=>?_⟩,aH rfl⟩
  ·rw[hdiv.eq k,Et,Cl,Lp,rO,iB]
   have hR0:p.length<=k->co R k=0:=fun h=>iL byO;by_cases h1:k<p.length
   ·rw[if_pos h1]
    by_cases h2:i<=k/\k<i+q.length
    ·rw[if_pos h2,oy _ h2.1]
     exact(show((cv Q (co q) k)+(co R k))=(((cv Q (co q) k)+(c*(co q (k-i))))+((co R k)-(c*(co q (k-i))))) from cY [(cv Q (co q) k),(co R k),c,(co q (k-i))] (.add (.v 0) (.v 1)) (.add (.add (.v 0) (.mul (.v 2) (.v 3))) (.add (.v 1) (.neg (.mul (.v 2) (.v 3))))) rfl)
    ·rw[if_neg h2]
     have hs0:sh i (co q) k=0:=by
      by_cases h3:i<=k
      ·rw[oy _ h3,iL byO]
      ·rw[sw _ byO]
     rw[hs0];exact(show((cv Q (co q) k)+(co R k))=(((cv Q (co q) k)+(c*0))+(co R k)) from cY [(cv Q (co q) k),(co R k),c] (.add (.v 0) (.v 1)) (.add (.add (.v 0) (.mul (.v 2) .zero)) (.v 1)) rfl)
   ·rw[if_neg h1,hR0 byO]
    have hs0:sh i (co q) k=0:=by rw[oy _ byO,iL byO]
    rw[hs0];exact(show((cv Q (co q) k)+0)=(((cv Q (co q) k)+(c*0))+0) from cY [(cv Q (co q) k),c] (.add (.v 0) .zero) (.add (.add (.v 0) (.mul (.v 1) .zero)) .zero) rfl)
  ·rw[iB]
   split
   ·by_cases h2:i<=k/\k<i+q.length
    ·rw[if_pos h2]
     have hkt:k=i+top:=byO;rw[hkt,show i+top-i=top by omega,<-hc,mul_assoc,inv_mul hqt,mul_one,sub_self]
    ·rw[if_neg h2]
     exact hdiv.top k byO
   ·rfl
  ·show Q k+c*sh i (s1:Ser (El f)) k=0
   rw[hdiv.qz k hk,oy _ byO];unfold s1;rw[if_neg byO,mul_zero,add_zero]
theorem IQ{g:El f}{vp vq:Value}{p q:List (El f)}(hlo:lo<=H.length)(hg:Gn (OkC.ok (f:=f)) g)(hp:SlE H vp p)(hq:SlE H vq q)(hpo:PolyOK p)(hqo:PolyOK q)(hq0:0<q.length) :
  Ev cp lo 61 [fvf f,vp,vq] H (fun v H'=>Ext H H'/\∃vt vr R Q,v=.tuple #[vt,vr,.int .i64 0]/\SlE H' vr (trim R)/\DivR p q R Q (q.length-1)):=by
 have hp0:=hp;have hq0':=hq;obtain⟨ap,cpp,rfl⟩:=hp.len;obtain⟨aq,cqq,rfl⟩:=hq.len;have hpl:=hpo.len;have hql:=hqo.len;unfold fvf fv;refine stG rfl rfl ?_;unfold Q1;simp only[kB,aD];refine aA ?_;generalize hG:H++_=G at *;have g0:G.get H.length=some [.int .i64 (FD.ch f:Nat),.int .i64 (f.q:Nat),.int .i64 (f.poly:Nat)]:=by rw[<-hG];exact aF
 have g1:G.get (H.length+1)=some [.slice ap p.length cpp,.slice aq q.length cqq]:=by rw[<-hG,bC];rfl
 have hxG:Ext H G:=by rw[<-hG];exact Ext.app _ _
 clear hG;refine aT ?_;refine aC (KA (hp0.mono hxG) (hq0'.mono hxG) hpo hqo g1) ?_;rintro v H1 ⟨hx1,rfl⟩;have g0:=hx1.get g0;have hx1:=hxG.trans hx1;have hl1:=hx1.1;(try simp only[aD]);refine an ?_;(try simp only[aD]);refine aP ?_ ?_<;>intro h
 ·exfalso;have:=of_decide_eq_true h;omega
 clear h;refine bF ?_;refine aC (uZ (f:=f) byO hg) ?_;rintro v H2 ⟨hx2,be,bl,hbe,hbl,rfl,harith⟩;have hx2:=hx1.trans hx2;have hl2:=hx2.1;refine bF ?_;refine aC (IT byO hg harith (hp0.mono hx2) (hq0'.mono hx2) byO byO hq0 (hqo.last.resolve_left byO)) ?_;rintro v H3 ⟨hx3,vt,vr,R,Q,rfl,hs,hd⟩;refine aA ?_;refine aK ?_;exact⟨hx2.trans hx3,vt,vr,R,Q,rfl,hs,hd⟩
end
end Go.Proofs.YtmnlgdpdgjbfgaaGreat
namespace Go.Proofs.YtmnlgdpdgjbfgaaGreat
open Go.Abs Go.RS
variable{H:Heap}{lo:Nat}
def cdI(ch sz po r b:Int):Value:=.agg #[.int .i64 ch,.int .i64 sz,.int .i64 po,.int .i64 r,.int .i64 b]
def ng(ch sz po r b:Int):Prop:=(∃f,OkF ch sz po f)/\1<=r/\r<=sz-2/\0<=b/\b<=sz-2
theorem wE{ch sz po:Int}(h:∃f,OkF ch sz po f):2<=sz/\sz<=4096:=by
 obtain⟨f,hf,h1,_⟩:=h;have:=hf.two;omega
namespace XRa
def xtr:=zzi @Int.cast_ofNat_Int (zzi @fv.eq_1 (zzi @fvf.eq_1 (zzi @ite_self.{1} (zzi @kf (zzi @ke @kc)))))
end XRa
open XRa
theorem fits{ch sz po r b:Int}(hs:-9223372036854775000<=sz)(hs2:sz<=9223372036854775807):Ev cp lo 101 [fv ch sz po,.int .i64 r,.int .i64 b] H (fun v H'=>Ext H H'/\v=.bool (((decide (1<=r)&&decide (r<=sz-2))&&decide (0<=b))&&decide (b<=sz-2))):=by
 unfold fv;refine stG rfl rfl ?_;unfold Kd;simp only[kB,aD];refine aA ?_;refine aK ?_;exact⟨Ext.app _ _,rfl⟩
set_option maxHeartbeats 1000000 in
theorem CC{ch sz po r b:Int}{v:Value}{l:List Int}(hb:po<=9223372036854775807)(hl:SlI H v l)(hll:l.length<=9223372036854775807):Ev cp lo 58 [cdI ch sz po r b,v] H (fun v H'=>Ext H H'/\∃t,v=.bool t/\(t=true↔ng ch sz po r b/\inF sz l=true)):=by
 have hl0:=hl;obtain⟨ad,c,rfl⟩:=hl.len;unfold cdI;refine stG rfl rfl ?_;unfold QY;simp only[kB,aD];refine aA ?_;refine aT ?_;refine aC (valid (ch:=ch) (sz:=sz) (po:=po) hb) ?_;rintro v H1 ⟨hx1,t1,rfl,ht1⟩;have g0:H1.get H.length=some _:=hx1.get aN;have hx1:=hx1.of_app;cases t1 with
 | false=>
  have hnf:¬ ∃f,OkF ch sz po f:=fun h=>by have:=ht1.2 h;cases this
  (try simp only[aD]);refine aU (t:=false) aN dP e9 (fun h=>by cases h) (fun _=>?_);(try simp only[aD]);refine aU (t:=false) aN dP e9 (fun h=>by cases h) (fun _=>?_);refine aA ?_;refine aK ?_;exact⟨hx1,false,rfl,by simp;intro h;exact absurd h.1 hnf⟩
 | true=>
  have hf:=ht1.1 rfl;have hsz:=wE hf;(try simp only[aD]);refine aU (t:=true) aN dP e9 (fun _=>⟨_,aN,?_⟩) (fun h=>by cases h);refine aC (fits (ch:=ch) (sz:=sz) (po:=po) (r:=r) (b:=b) byO byO) ?_;rintro v H2 ⟨hx2,rfl⟩;have g0:=hx2.get g0;have hx2:=hx1.trans hx2;generalize ht2:(((decide (1<=r)&&decide (r<=sz-2))&&decide (0<=b))&&decide (b<=sz-2))=t2;have ht2':t2=true↔1<=r/\r<=sz-2/\0<=b/\b<=sz-2:=by
   rw[<-ht2];simp only[ac₀,af₀];omega
  clear ht2;cases t2 with
  | false=>
   have hnf:¬ (1<=r/\r<=sz-2/\0<=b/\b<=sz-2):=fun h=>by have:=ht2'.2 h;cases this
   (try simp only[aD]);refine aU (t:=false) aN dP e9 (fun h=>by cases h) (fun _=>?_);refine aA ?_;refine aK ?_;exact⟨hx2,false,rfl,by simp;intro h;exact absurd h.2 hnf⟩
  | true=>
   (try simp only[aD]);refine aU (t:=true) aN dP e9 (fun _=>⟨_,aN,?_⟩) (fun h=>by cases h);refine aC (Co (ch:=ch) (sz:=sz) (po:=po) (hl0.mono hx2) hll) ?_;rintro v H3 ⟨hx3,rfl⟩;refine aA ?_;refine aK ?_;exact⟨hx2.trans hx3,inF sz l,rfl,⟨fun h=>⟨⟨hf,ht2'.1 rfl⟩,h⟩,fun h=>h.2⟩⟩
theorem U1{ch sz po r b n:Int}:Ev cp lo 59 [cdI ch sz po r b,.int .i64 n] H (fun v H'=>Ext H H'/\v=.bool (decide (r<n)&&decide (n<sz))):=by
 unfold cdI;refine stG rfl rfl ?_;unfold QZ;simp only[kB,aD];refine aA ?_;refine aK ?_;exact⟨Ext.app _ _,rfl⟩
theorem Gh{ch sz po r b:Int}(hs2:sz<=9223372036854775807):Ev cp lo 64 [cdI ch sz po r b] H (fun v H'=>Ext H H'/\∃t,v=.bool t/\(t=true↔ng ch sz po r b)):=by
 unfold cdI;refine stG rfl rfl ?_;unfold Q4;simp only[kB,aD];refine aA ?_;refine aT ?_;refine aC (Gy (ch:=ch) (sz:=sz) (po:=po) hs2) ?_;rintro v H1 ⟨hx1,t1,rfl,ht1⟩;have g0:H1.get H.length=some _:=hx1.get aN;have hx1:=hx1.of_app;cases t1 with
 | false=>
  refine aA ?_;refine aK ?_;refine⟨hx1,false,rfl,?_⟩;simp only[ah₀,false_iff]at ht1 ⊢;exact fun h=>ht1 h.1
 | true=>
 have hbd:=wE (ht1.1 rfl);generalize ht:true=t1 at ht1;refine aA ?_;refine aK ?_;refine⟨hx1,_,rfl,?_⟩;subst ht;simp only[ac₀,af₀,ht1.1 rfl,true_and,ng];constructor
 ·rintro⟨⟨⟨b,c⟩,d⟩,e⟩;exact⟨b,c,d,e⟩
 ·rintro⟨b,c,d,e⟩;exact⟨⟨⟨b,c⟩,d⟩,e⟩
theorem D4{ch sz po:Int}{v:Value}{l:List Int}(hl:SlI H v l)(hll:l.length<=9223372036854775807):Ev cp lo 65 [fv ch sz po,v] H (fun v H'=>Ext H H'/\v=.bool (inF sz l)):=by
 have hl0:=hl;obtain⟨ad,c,rfl⟩:=hl.len;unfold fv;refine stG rfl rfl ?_;unfold Q5;simp only[kB,aD];refine aA ?_;generalize hG:H++_=G at *;have g0:G.get H.length=some [.int .i64 ch,.int .i64 sz,.int .i64 po]:=by rw[<-hG];exact aF
 have hxG:Ext H G:=by rw[<-hG];exact Ext.app _ _
 clear hG;refine aS (fun i S H'=>Ext G H'/\inF sz (l.take i)=true/\∃(z:Nat->Value),S=[z 0,.slice ad l.length c,.pointer (some ⟨H.length,0,none⟩),.bool false,.int .i64 (i:Nat),z 5]) l.length ?_ ?_ ?_ ?_
 ·exact⟨Ext.refl _,rfl,aH rfl⟩
 ·rintro i S H' hi ⟨hx,-,z,rfl⟩
  exact⟨_,aN,by simp⟩
 ·rintro i S H1 hi ⟨hx,hin,z,rfl⟩
  obtain⟨b,o,sp,cap,xs,e,gx,hat,hxl⟩:=hl0.els 0 byO;cases e;have gx:=(hxG.trans hx).get gx;have g0:=hx.get g0;have hati:=hat i hi;have hs:=fC (p:=fun x=>!(decide (x<0) || decide (sz<=x))) hi;clear hat;refine bF ?_;refine aC (ris (ch:=ch) (sz:=sz) (po:=po) (x:=l.getD i 0)) ?_;rintro v H2 ⟨hx2,rfl⟩;have hx2:=hx.trans hx2;have hneg:(!(decide (l.getD i 0<0) || decide (sz<=l.getD i 0)))=(decide (0<=l.getD i 0)&&decide (l.getD i 0<sz)):=by
   rw[Bool.eq_iff_iff];simp
  rw[hneg]at hs;clear hneg;(try simp only[aD]);refine aP ?_ ?_<;>intro h
  ·have hno:inF sz l=false:=by
    rw[Bool.eq_false_iff];intro hin2;have:=iV.1 hin2 (l.getD i 0) (by rw[au₀,bc₀ hi];exact List.getElem_mem hi);simp at h;simp at this;omega
   clear h hs;refine aA ?_;refine aK ?_;exact⟨hxG.trans hx2,by rw[hno];rfl⟩
  ·have hin2:inF sz (l.take (i+1))=true:=by
    have h:(decide (0<=l.getD i 0)&&decide (l.getD i 0<sz))=true:=by simpa using h
    unfold inF at hin ⊢;rw[hs,hin,h];rfl
   clear h hs;refine aA ?_;exact⟨hx2,hin2,aH ncM⟩
 ·rintro S H1 ⟨hx,hin,z,rfl⟩
  rw[List.take_of_length_le (Nat.le_refl _)]at hin;refine aA ?_;refine aK ?_;exact⟨hxG.trans hx,by rw[hin];rfl⟩
theorem MJ{f:FD}{l:List Int}(h:inF (f.q:Int) l=true):∃le:List (El f),l=le.map fun x=>(x.val:Int):=by
 induction l with
 | nil=>exact⟨[],rfl⟩
 | cons a l ih=>
  have h2:=iV.1 h;have ha:=h2 a (by simp);obtain⟨le,hle⟩:=ih (iV.2 fun x hx=>h2 x (by simp[hx]));refine⟨⟨a.toNat,byO⟩::le,?_⟩;rw[hle];simp;omega
end Go.Proofs.YtmnlgdpdgjbfgaaGreat
namespace Go.Proofs.YtmnlgdpdgjbfgaaGreat
open Go.Abs Go.RS
variable{H:Heap}
section
variable {f:FD}[OkC f]
theorem CJ{v:Value}{l:List (El f)}(h:SlI H v (en l)):SlE H v l:=by
 rcases h with ⟨h1,h2⟩|⟨b,o,sp,cap,xs,h1,h2,h3,h4⟩
 ·exact .inl ⟨h1,by simpa[en]using h2⟩
 ·refine .inr ⟨b,o,sp,cap,xs,by rw[h1];simp[en],h2,?_,by simpa[en]using h4⟩
  simp only[en,ay₀,List.map_map]at h3;exact h3
structure CdOK (f:FD)(r b:Nat):Prop where
 r1:1<=r
 r2:r<=f.q-2
 b2:b<=f.q-2
theorem wD{r b:Nat}(h:CdOK f r b):ng (FD.ch f) f.q f.poly r b:=by
 have h2:=qle (f:=f);obtain⟨a,b,c⟩:=h;exact⟨kA (OkC.ok (f:=f)),byO,byO,byO,byO⟩
namespace XRb
def xtr:=zzi @Int.cast_ofNat_Int (zzi @fv.eq_1 (zzi @fvf.eq_1 (zzi @ite_self.{1} (zzi @kf (zzi @ke (zzi @kc (zzi @cdC.eq_1 (zzi @arC.eq_1 (zzi @nI (zzi @ea (zzi @jB @kx)))))))))))
end XRb
open XRb
theorem I6{lo:Nat}{g:El f}{r b:Nat}(hlo:lo<=H.length)(hg:Gn (OkC.ok (f:=f)) g)(hc:CdOK f r b):Ev cp lo 60 [cdV f r b] H (fun v H'=>Ext H H'/\∃vs,v=.tuple #[vs,.int .i64 0]/\SlE H' vs (lC (fun i=>pw g (b+i)) r)):=by
 have h2:=qle (f:=f);have hok:=wD hc;obtain⟨c1,c2,c3⟩:=hc;unfold cdV;refine stG rfl rfl ?_;unfold Q0;simp only[kB,aD];refine aA ?_;refine aT ?_;refine aC (CC (ch:=FD.ch f) (sz:=f.q) (po:=f.poly) (r:=r) (b:=b) (l:=[]) (j4 (OkC.ok (f:=f))) (.inl ⟨rfl,rfl⟩) (by simp)) ?_;rintro v H1 ⟨hx1,t,rfl,ht⟩;have g0:H1.get H.length=some _:=hx1.get aN;have hx1:=hx1.of_app;have htt:t=true:=ht.2 ⟨hok,rfl⟩;subst htt;have hl1:=hx1.1;(try simp only[aD]);refine aP ?_ ?_<;>intro h
 ·cases h
 clear h;refine bF ?_;refine aC (DP (f:=f) byO hg) ?_;rintro v H2 ⟨hx2,be,bl,hbe,hbl,rfl,harith⟩;have hbe2:=harith.lt;have g0:=hx2.get g0;have hx2:=hx1.trans hx2;have hl2:=Heap.get_lt g0;unfold arV;refine aA ?_;generalize hG:H2++_=G at *;have g1:G.get H2.length=some (arC f be bl):=by rw[<-hG];exact aF
 have g2:G.get (H2.length+1)=some (elL (tab r (fun _=>(0:El f)))):=by rw[<-hG,bC,fJ];rfl
 have g0:G.get H.length=some (cdC f r b):=by rw[<-hG,aV byO];exact g0
 have hxG:Ext H2 G:=by rw[<-hG];exact Ext.app _ _
 have harith:=harith.mono hxG;have hal:=harith.lt;clear hG;have hxG:=hx2.trans hxG;generalize hp2:H2.length=p2 at *;refine aS (fun i S H'=>Ext H H'/\H'.get H.length=some (cdC f r b)/\H'.get p2=some (arC f be bl)/\ArH H' g be bl/\H'.get (p2+1)=some (elL (tab r (fun k=>if k<i then pw g (b+k) else 0)))/\∃(z:Nat->Value),S=[z 0,.pointer (some ⟨H.length,0,none⟩),.slice none 0 0,.int .i64 0,.pointer (some ⟨p2,0,none⟩),.slice (some ⟨p2+1,0,none⟩) r r,z 6,z 7,z 8,z 9,.int .i64 (r:Nat),.int .i64 (i:Nat),z 12,z 13,z 14,z 15]) r ?_ ?_ ?_ ?_
 ·refine⟨hxG,g0,g1,harith,?_,aH rfl⟩
  rw[g2];refine congrArg (fun t=>some (elL t)) ?_;exact bM fun k _=>(if_neg byO).symm
 ·rintro i S H' hi ⟨hx,f0,f1,fa,f2,z,rfl⟩
  exact⟨_,aN,by simp⟩
 ·clear g0 g1 g2 hxG harith hal
  rintro i S H3 hi ⟨hx3,f0,f1,fa,f2,z,rfl⟩;have hset:(tab r (fun k=>if k<i then pw g (b+k) else 0)).set i (pw g (b+i))=tab r (fun k=>if k<i+1 then pw g (b+k) else 0):=by
   rw[j6];refine bM fun k hk=>?_;by_cases e:k=i
   ·rw[if_pos e,if_pos byO,e]
   ·rw[if_neg e]
    by_cases h2:k<i
    ·rw[if_pos h2,if_pos byO]
    ·rw[if_neg h2,if_neg byO]
  have hlen2:(tab r (fun k=>if k<i then pw g (b+k) else 0)).length<=r/\r<=(tab r (fun k=>if k<i then pw g (b+k) else 0)).length:=by rw[bp];omega
  generalize tab r (fun k=>if k<i then pw g (b+k) else 0)=T at *;have hbi:((b:Int)+(i:Int))=((b+i:Nat):Int):=byO;refine aA ?_;refine aT ?_;refine aC (PH hg fa (b+i) byO) ?_;rintro v H4 ⟨hx4,rfl⟩;have f0:=(hx4).get f0;have f1:=(hx4).get f1;have f2:=(hx4).get f2;have fa:=fa.mono hx4;have hx4:=hx3.trans hx4;have hl4:=Heap.get_lt f2;clear hbi;refine aA ?_;exact⟨hx4.set (by omega),by simp(disch:=try exact dO)only[evB,xtr,Nat.reduceAdd,Nat.reduceBEq,Int.reduceToNat, *],by simp(disch:=try exact dO)only[evB,xtr,Nat.reduceAdd,Nat.reduceBEq,Int.reduceToNat, *],fa.keep ⟨by simp,fun i hi hne=>aI (fun e=>hne e.symm)⟩ (by omega) (by omega),by rw[aG (by omega)],aH ncM⟩
 ·rintro S H3 ⟨hx3,f0,f1,fa,f2,z,rfl⟩
  have hT:tab r (fun k=>if k<r then pw g (b+k) else 0)=tab r (fun k=>pw g (b+k)):=bM fun k hk=>if_pos hk;rw[hT]at f2;have hl3:=hx3.1;have hrl:=bp r (fun k=>pw g (b+k));refine bF ?_;refine aC (zu byO hg (ei (sp:=none) f2 hrl) (by rw[hrl];omega)) ?_;rintro v H4 ⟨hx4,vp,rfl,f4⟩;rw[hrl]at f4;have hgp:lC (co (tab r (fun k=>pw g (b+k)))) r=lC (fun i=>pw g (b+i)) r:=by
   unfold lC;rw[xu (fun i hi=>by rw[iB,if_pos hi])]
  rw[hgp]at f4;refine aA ?_;refine aK ?_;exact⟨hx3.trans hx4,_,rfl,f4⟩
end
open Go.Abs Go.RS
section
variable {f:FD}[OkC f]
structure IsEnc (g:El f)(r b:Nat)(d w:List (El f)):Prop where
 len:w.length=d.length+r
 dat:∀i,i<d.length->co w i=co d i
 cw:Ds (fun i=>pw g (b+i)) r w
theorem PT{g:El f}(hg:Gn (OkC.ok (f:=f)) g){r b:Nat}(hc:CdOK f r b):∀i j,i<r->j<r->pw g (b+i)=pw g (b+j)->i=j:=by
 intro i j hi hj e;have h2:=qle (f:=f);rw[iJ,iJ]at e;have e2:=mul_left_cancel (dZ (oN hg) b) e;exact wR (oN hg) (iD hg) i j (by have:=hc.r2;omega) (by have:=hc.r2;omega) e2
theorem FI{g:El f}(hg:Gn (OkC.ok (f:=f)) g){r b:Nat}(hc:CdOK f r b){d w w':List (El f)}(h:IsEnc g r b d w)(h':IsEnc g r b d w'):w=w':=by
 have hl:=h.len;have hl':=h'.len;refine IP hc.r1 (PT hg hc) (fun i _=>dZ (oN hg) _) h.cw h'.cw byO byO (fun i hi=>?_);rw[h.dat i byO,h'.dat i byO]
theorem KT{R:List (El f)}{r:Nat}(h:∀k,r<=k->co R k=0):(trim R).length<=r:=by
 apply Decidable.byContradiction;intro hc;have hne:trim R≠[]:=by intro e;rw[e]at hc;simp at hc
 exact tG R hne (h _ byO)
open XRb
set_option maxHeartbeats 4000000 in
theorem FB{lo:Nat}{g:El f}{v:Value}{d:List (El f)}{r b:Nat}(hlo:lo<=H.length)(hg:Gn (OkC.ok (f:=f)) g)(hc:CdOK f r b)(hd:SlE H v d)(hdl:d.length<=10000000) :
  Ev cp lo 29 [cdV f r b,v] H (fun v H'=>Ext H H'/\((0<d.length/\d.length+r<f.q/\∃vs w,v=.tuple #[vs,.int .i64 0]/\SlE H' vs w/\NewV H.length vs/\IsEnc g r b d w)\/(¬ (0<d.length/\d.length+r<f.q)/\v=.tuple #[.slice none 0 0,.int .i64 7]))):=by
 have h2:=qle (f:=f);have hd0:=hd;have hok:=wD hc;have hc0:=hc;obtain⟨c1,c2,c3⟩:=hc;obtain⟨ad,cd,rfl⟩:=hd.len;have hnr:((d.length:Int)+(r:Int))=((d.length+r:Nat):Int):=byO;unfold cdV;refine stG rfl rfl ?_;unfold QD;simp only[kB,aD];refine aA ?_;refine aT ?_;refine aC (CC (ch:=FD.ch f) (sz:=f.q) (po:=f.poly) (r:=r) (b:=b) (j4 (OkC.ok (f:=f))) (oz (hd0.mono (Ext.app _ _))) (by rw[dX];omega)) ?_;rintro v H1 ⟨hx1,t,rfl,ht⟩;have g0:H1.get H.length=some _:=hx1.get aN;have hx1:=hx1.of_app;have htt:t=true:=ht.2 ⟨hok,gj d⟩;subst htt;(try simp only[aD]);refine an ?_;(try simp only[aD]);by_cases hd1:0<d.length;rotate_left
 ·have hdz:(d.length:Int)=0:=byO
  refine aU (t:=false) aN dP e9 (fun h=>by cases h) (fun _=>?_);(try simp only[aD]);refine bL ?_;refine aA ?_;refine aK ?_;exact⟨hx1,.inr ⟨byO,rfl⟩⟩
 have hdz:¬ (d.length:Int)=0:=byO;refine aU (t:=true) aN dP e9 (fun _=>⟨_,aN,?_⟩) (fun h=>by cases h);refine aC (U1 (ch:=FD.ch f) (sz:=f.q) (po:=f.poly) (r:=r) (b:=b) (n:=((d.length+r:Nat):Int))) ?_;rintro v H2 ⟨hx2,rfl⟩;have g0:=hx2.get g0;have hx2:=hx1.trans hx2;have hl2:=Heap.get_lt g0;by_cases hlen:d.length+r<f.q;rotate_left
 ·(try simp only[aD])
  refine aP ?_ ?_<;>intro h
  ·clear h
   refine aA ?_;refine aK ?_;exact⟨hx2,.inr ⟨byO,rfl⟩⟩
  ·exfalso;simp at h;omega
 (try simp only[aD]);refine aP ?_ ?_<;>intro h
 ·exfalso;simp at h;omega
 clear h;refine bF ?_;refine aC (I6 (f:=f) byO hg hc0) ?_;rintro v H3 ⟨hx3,vg,rfl,hgen⟩;have g0:=hx3.get g0;have hx3:=hx2.trans hx3;have hl3:=Heap.get_lt g0;have hgl:=jv (fun i=>pw g (b+i)) r;generalize hn:d.length+r=n at *;refine aA ?_;refine an ?_;refine aA ?_;have hg0:H3.get H.length=some (cdC f r b):=g0;clear g0;generalize hG:H3++_=G at *;have g1:G.get H3.length=some (elL (tab n (fun _=>(0:El f)))):=by rw[<-hG,aF,fJ]
 have hxG:Ext H3 G:=by rw[<-hG];exact Ext.app _ _
 clear hG;refine aS (fun i S H'=>Ext H3 H'/\H'.get H3.length=some (elL (tab n (fun k=>if n-i<=k then co d (n-1-k) else 0)))/\∃(z:Nat->Value),S=[z 0,.slice ad d.length cd,.pointer (some ⟨H.length,0,none⟩),.slice none 0 0,.int .i64 0,vg,z 6,.int .i64 (n:Nat),.slice (some ⟨H3.length,0,none⟩) n n,z 9,z 10,z 11,z 12,z 13,z 14,z 15,z 16,z 17,z 18,z 19,.slice ad d.length cd,.int .i64 (d.length:Nat),.int .i64 (i:Nat),z 23,z 24,z 25,z 26,z 27,z 28,z 29,z 30,z 31,z 32,z 33,z 34]) d.length ?_ ?_ ?_ ?_
 ·refine⟨hxG,?_,aH rfl⟩
  rw[g1];refine congrArg (fun t=>some (elL t)) ?_;exact bM fun k _=>(if_neg byO).symm
 ·rintro i S H' hi ⟨hx,f1,z,rfl⟩
  exact⟨_,aN,by simp⟩
 ·clear g1 hxG
  rintro i S H4 hi ⟨hx4,f1,z,rfl⟩;obtain⟨bd,od,sp,cap,xs,e,gx,hat,hxl⟩:=gV hd0 hd1;cases e;have gx:=(hx3.trans hx4).get gx;have hati:=hat i hi;have hidx:((n:Int)-1-(i:Int))=((n-1-i:Nat):Int):=byO;have hset:(tab n (fun k=>if n-i<=k then co d (n-1-k) else 0)).set (n-1-i) (co d i)=tab n (fun k=>if n-(i+1)<=k then co d (n-1-k) else 0):=by
   rw[j6];refine bM fun k hk=>?_;by_cases e:k=n-1-i
   ·rw[if_pos e,if_pos byO,e,show n-1-(n-1-i)=i by omega]
   ·rw[if_neg e]
    by_cases h2:n-i<=k
    ·rw[if_pos h2,if_pos byO]
    ·rw[if_neg h2,if_neg byO]
  have hlen2:(tab n (fun k=>if n-i<=k then co d (n-1-k) else 0)).length<=n/\n<=(tab n (fun k=>if n-i<=k then co d (n-1-k) else 0)).length:=by rw[bp];omega
  generalize tab n (fun k=>if n-i<=k then co d (n-1-k) else 0)=T at *;have hl4:=Heap.get_lt f1;clear hat;refine aA ?_;exact⟨hx4.set (Nat.le_refl _),by rw[aG byO],aH ncM⟩
 clear g1 hxG;rintro S H4 ⟨hx4,f1,z,rfl⟩;have hST:tab n (fun k=>if n-d.length<=k then co d (n-1-k) else 0)=tab n (fun k=>if r<=k/\k<n then co d (n-1-k) else 0):=by
  refine bM fun k hk=>?_;by_cases h:r<=k
  ·rw[if_pos byO,if_pos ⟨h,hk⟩]
  ·rw[if_neg byO,if_neg byO]
 rw[hST]at f1;clear hST;have hcoS:∀k,co (tab n (fun k=>if r<=k/\k<n then co d (n-1-k) else 0)) k=if r<=k/\k<n then co d (n-1-k) else 0:=by
  intro k;rw[iB];split
  ·rfl
  ·rw[if_neg byO]
 have hSl:=bp n (fun k=>if r<=k/\k<n then co d (n-1-k) else 0);generalize tab n (fun k=>if r<=k/\k<n then co d (n-1-k) else 0)=S0 at *;have hg4:=hx4.get hg0;have hl4:=(hx3.trans hx4).1;unfold cdC at hg4;refine bF ?_;refine bS (HZ (Nat.le_refl _) (ei (sp:=none) f1 hSl) byO) ?_;rintro v H5 ⟨hx5,hs5⟩;have hg5:=hx5.get hg4;have hx5:=hx4.trans hx5;have hl5:=(hx3.trans hx5).1;have htl:=qS S0;clear hg4;refine bF ?_;refine aC (IQ byO hg hs5 (hgen.mono hx5) ⟨byO,?_⟩ ⟨by rw[hgl];omega,.inr ?_⟩ (by rw[hgl];omega)) ?_
 ·by_cases e:trim S0=[]
  ·left;rw[e];rfl
  ·right;rw[nz];exact tG S0 e
 ·rw[hgl,ny,Nat.add_sub_cancel,zy];exact sO
 rintro v H6 ⟨hx6,vt,vr,R,Q,rfl,hsR,hdiv⟩;rw[hgl,Nat.add_sub_cancel]at hdiv;have hg6:=hx6.get hg5;have hx6:=hx5.trans hx6;have hl6:=(hx3.trans hx6).1;have hRl:=KT hdiv.top;have hsR0:=hsR;obtain⟨aR,cR,rfl⟩:=hsR.len;clear hg5;refine aA ?_;refine an ?_;refine aA ?_;generalize hG:H6++_=G at *;have g1:G.get H6.length=some (elL (List.replicate n (0:El f))):=by rw[<-hG,aF]
 have hxG:Ext H6 G:=by rw[<-hG];exact Ext.app _ _
 clear hG;have hl7:=Heap.get_lt g1;refine aT ?_;refine KW byO g1 (by simp) (hd0.mono (hx3.trans (hx6.trans hxG))) (by simp;omega) ?_;intro w0;rw[wz d byO];generalize hG2:G.set H6.length _=G2;have g1:Heap.get G2 H6.length=some (elL (tab n (co d))):=by rw[<-hG2,aG byO]
 have hxG:Ext H6 G2:=by rw[<-hG2];exact hxG.set (Nat.le_refl _)
 clear hG2 hl7;refine aA ?_;refine aS (fun i S H'=>Ext H6 H'/\H'.get H6.length=some (elL (tab n (fun k=>if n-i<=k then-co R (n-1-k) else co d k)))/\∃(z:Nat->Value),S=[z 0,z 1,.pointer (some ⟨H.length,0,none⟩),.slice none 0 0,.int .i64 0,z 5,z 6,.int .i64 (n:Nat),z 8,z 9,z 10,z 11,.slice (some ⟨H6.length,0,none⟩) n n,z 13,z 14,z 15,z 16,z 17,z 18,z 19,z 20,z 21,z 22,z 23,z 24,z 25,z 26,z 27,.slice aR (trim R).length cR,.int .i64 ((trim R).length:Nat),.int .i64 (i:Nat),z 31,z 32,z 33,z 34]) (trim R).length ?_ ?_ ?_ ?_
 ·refine⟨hxG,?_,aH rfl⟩
  rw[g1];refine congrArg (fun t=>some (elL t)) ?_;exact bM fun k hk=>(if_neg byO).symm
 ·rintro i S H' hi ⟨hx,f1,z,rfl⟩
  exact⟨_,aN,by simp⟩
 ·clear g1 hxG
  rintro i S H7 hi ⟨hx7,f1,z,rfl⟩;obtain⟨bd,od,sp,cap,xs,e,gx,hat,hxl⟩:=gV hsR0 byO;cases e;have gx:=hx7.get gx;have hati:=hat i hi;rw[nz]at hati;have hg7:=hx7.get hg6;have hidx:((n:Int)-1-(i:Int))=((n-1-i:Nat):Int):=byO;have hset:(tab n (fun k=>if n-i<=k then-co R (n-1-k) else co d k)).set (n-1-i) (- co R i)=tab n (fun k=>if n-(i+1)<=k then-co R (n-1-k) else co d k):=by
   rw[j6];refine bM fun k hk=>?_;by_cases e:k=n-1-i
   ·rw[if_pos e,if_pos byO,e,show n-1-(n-1-i)=i by omega]
   ·rw[if_neg e]
    by_cases h2:n-i<=k
    ·rw[if_pos h2,if_pos byO]
    ·rw[if_neg h2,if_neg byO]
  have hlen2:(tab n (fun k=>if n-i<=k then-co R (n-1-k) else co d k)).length<=n/\n<=(tab n (fun k=>if n-i<=k then-co R (n-1-k) else co d k)).length:=by rw[bp];omega
  generalize tab n (fun k=>if n-i<=k then-co R (n-1-k) else co d k)=T at *;have hneg:qW f 0 (co R i).val=(- co R i).val:=by
   rw[vV (OkC.ok (f:=f)) byO (co R i).lt];show((0:El f)+- co R i).val=_;rw[zero_add]
  clear hat;refine aA ?_;refine aT ?_;refine aC (NB (f:=f) (OkC.ok (f:=f)) (a:=0) (b:=(co R i).val) byO (co R i).lt) ?_;rintro v H8 ⟨hx8,rfl⟩;rw[hneg];have f1:=hx8.get f1;have hx8:=hx7.trans hx8;have hl8:=Heap.get_lt f1;clear hneg;refine aA ?_;refine an ?_;refine aA ?_;exact⟨hx8.set (Nat.le_refl _),by rw[aG byO],aH ncM⟩
 ·rintro S H7 ⟨hx7,f1,z,rfl⟩
  refine aA ?_;refine aK ?_;refine⟨hx3.trans (hx6.trans hx7),.inl ⟨hd1,hlen,_,_,rfl,ei f1 (bp _ _),NewV.mk byO,?_⟩⟩;have hw:tab n (fun k=>if n-(trim R).length<=k then-co R (n-1-k) else co d k)=tab n (fun k=>if k<d.length then co d k else-co R (n-1-k)):=by
   refine bM fun k hk=>?_;by_cases h1:k<d.length
   ·rw[if_pos h1,if_neg byO]
   ·rw[if_neg h1]
    by_cases h3:n-(trim R).length<=k
    ·rw[if_pos h3]
    ·rw[if_neg h3,iL (l:=d) byO,<-nz R,iL (l:=trim R) byO,neg_zero]
  rw[hw];refine⟨by rw[bp];omega,fun i hi=>by rw[iB,if_pos byO,if_pos hi],?_⟩;refine IS (n:=n) (data:=d) (S:=S0) (R:=R) (Q:=Q) (N:=(trim S0).length) byO hcoS (fun k=>?_) hdiv.top hdiv.qz (bp _ _) (fun i hi=>by rw[iB,if_pos byO,if_pos hi]) (fun k hk=>?_)
  ·rw[<-nz S0,hdiv.eq k,ny]
  ·rw[iB,if_pos byO,if_neg byO,show n-1-(n-1-k)=k by omega]
end
end Go.Proofs.YtmnlgdpdgjbfgaaGreat
