/- Lemmas. -/
import Derived.Test.YtmnlgdpdgjbfgaaGreatW10
import Derived.Test.YtmnlgdpdgjbfgaaGreatW16
set_option linter.all false
namespace Go.Proofs.YtmnlgdpdgjbfgaaGreat
open Go.Abs Go.RS
variable{H:Heap}{lo:Nat}{R:Value->Heap->Prop}{v:Value}
set_option maxRecDepth 20000
namespace XPa
def xtr:=zzi @Int.cast_ofNat_Int (zzi @fv.eq_1 (zzi @fvf.eq_1 (zzi @arC.eq_1 (zzi @lK (zzi @dQ (zzi @gU (zzi @jV (zzi @ite_self.{1} (zzi @lT (zzi @lS @lR))))))))))
end XPa
open XPa
theorem pA{ch sz po:Int}{l:List Int}(hl:SlI H v l)(hll:l.length<=9223372036854775807):Ev cp lo 151 [fv ch sz po,v] H (fun v H'=>Ext H H'/\v=.bool (inF sz l)):=by
 have hl0:=hl;obtain⟨ad,c,rfl⟩:=hl.len;unfold fv;refine stG rfl rfl ?_;unfold Ks;simp only[kB,aC];refine aD ?_;generalize hG:H++_=G at *;have g0:G.get H.length=some [.int .i64 ch,.int .i64 sz,.int .i64 po]:=by rw[<-hG];exact aH
 have hxG:Ext H G:=by rw[<-hG];exact Ext.app _ _
 clear hG;refine aT (fun i S H'=>G=H'/\inF sz (l.take i)=true/\∃(z:Nat->Value),S=[z 0,z 1,.pointer (some ⟨H.length,0,none⟩),.bool false,z 4,.slice ad l.length c,.int .i64 (l.length:Nat),.int .i64 (i:Nat)]) l.length ?_ ?_ ?_ ?_
 ·exact⟨rfl,rfl,aJ rfl⟩
 ·rintro i S H' hi ⟨rfl,-,z,rfl⟩
  exact⟨_,bD,by simp⟩
 ·rintro i S H' hi ⟨rfl,hin,z,rfl⟩
  obtain⟨b,o,sp,cap,xs,e,gx,hat,hxl⟩:=hl0.els 0 byO;cases e;have gx:=hxG.get gx;have hati:=hat i hi;have hs:=gH (p:=fun x=>!(decide (x<0) || decide (sz<=x))) hi;clear hat;refine aD ?_;refine ah ?_ ?_<;>intro h
  ·have hno:inF sz l=false:=by
    rw[Bool.eq_false_iff];intro hin2;have:=iE.1 hin2 (l.getD i 0) (by rw[au₀,bc₀ hi];exact List.getElem_mem hi);simp at h;simp at this;omega
   clear h hs;refine aD ?_;refine az ?_;exact⟨hxG,by rw[hno];rfl⟩
  ·have hin2:inF sz (l.take (i+1))=true:=by
    unfold inF at hin ⊢;rw[hs,hin,h];rfl
   clear h hs;refine aD ?_;exact⟨by trivial,hin2,aJ ncM⟩
 ·rintro S H' ⟨rfl,hin,z,rfl⟩
  rw[List.take_of_length_le (Nat.le_refl _)]at hin;refine aD ?_;refine az ?_;exact⟨hxG,by rw[hin];rfl⟩
theorem CH{ch sz po:Int}{l:List Int}(hl:SlI H v l)(hll:l.length<=9223372036854775807):Ev cp lo 102 [fv ch sz po,v] H (fun v H'=>Ext H H'/\v=.bool (inF sz l)):=by
 have hl0:=hl;obtain⟨ad,c,rfl⟩:=hl.len;unfold fv;refine stG rfl rfl ?_;unfold KU;simp only[kB,aC];refine aD ?_;generalize hG:H++_=G at *;have g0:G.get H.length=some [.int .i64 ch,.int .i64 sz,.int .i64 po]:=by rw[<-hG];exact aH
 have hxG:Ext H G:=by rw[<-hG];exact Ext.app _ _
 clear hG;refine aT (fun i S H'=>G=H'/\inF sz (l.take i)=true/\∃(z:Nat->Value),S=[z 0,z 1,.pointer (some ⟨H.length,0,none⟩),.bool false,z 4,.slice ad l.length c,.int .i64 (l.length:Nat),.int .i64 (i:Nat)]) l.length ?_ ?_ ?_ ?_
 ·exact⟨rfl,rfl,aJ rfl⟩
 ·rintro i S H' hi ⟨rfl,-,z,rfl⟩
  exact⟨_,bD,by simp⟩
 ·rintro i S H' hi ⟨rfl,hin,z,rfl⟩
  obtain⟨b,o,sp,cap,xs,e,gx,hat,hxl⟩:=hl0.els 0 byO;cases e;have gx:=hxG.get gx;have hati:=hat i hi;have hs:=gH (p:=fun x=>!(decide (x<0) || decide (sz<=x))) hi;clear hat;refine aD ?_;refine ah ?_ ?_<;>intro h
  ·have hno:inF sz l=false:=by
    rw[Bool.eq_false_iff];intro hin2;have:=iE.1 hin2 (l.getD i 0) (by rw[au₀,bc₀ hi];exact List.getElem_mem hi);simp at h;simp at this;omega
   clear h hs;refine aD ?_;refine az ?_;exact⟨hxG,by rw[hno];rfl⟩
  ·have hin2:inF sz (l.take (i+1))=true:=by
    unfold inF at hin ⊢;rw[hs,hin,h];rfl
   clear h hs;refine aD ?_;exact⟨by trivial,hin2,aJ ncM⟩
 ·rintro S H' ⟨rfl,hin,z,rfl⟩
  rw[List.take_of_length_le (Nat.le_refl _)]at hin;refine aD ?_;refine az ?_;exact⟨hxG,by rw[hin];rfl⟩
section
variable {f:FD}[OkC f]
def eH(l:List (El f)):List Int:=l.map fun x=>(x.val:Int)
theorem o6{l:List (El f)}(h:SlE H v l):SlI H v (eH l):=by
 rcases h with ⟨rfl,rfl⟩|⟨b,o,sp,cap,xs,h1,h2,h3,h4,h5⟩
 ·exact .inl ⟨rfl,rfl⟩
 ·refine .inr ⟨b,o,sp,cap,xs,by rw[h1];simp[eH],h2,?_,by simpa[eH]using h4,by simpa[eH]using h5⟩
  simp only[eH,ay₀,List.map_map];exact h3
theorem ij(l:List (El f)):inF (f.q:Int) (eH l)=true:=by
 rw[iE];intro x hx;obtain⟨y,_,rfl⟩:=List.mem_map.1 hx;have:=y.lt;omega
theorem dW(l:List (El f)):(eH l).length=l.length:=by simp[eH]
set_option maxHeartbeats 1000000 in
theorem IY{be bl:Nat}{g:El f}{vp:Value}{p:List (El f)}(hlo:lo<=H.length)(hg:Gn (OkC.ok (f:=f)) g)(ha:ArH H g be bl)(hp:SlE H vp p)(hpl:p.length<=100000000)(r:El f) :
  Ev cp lo 152 [arV f be bl,vp,.int .i64 (r.val:Nat),.int .i64 0] H (fun v H'=>Ext H H'/\∃b,H.length<=b/\v=.slice (some ⟨b,0,none⟩) (p.length+1) (p.length+1)/\H'.get b=some (elL (tab (p.length+1) (cv (co p) (mon r))))):=by
 have hp0:=hp;obtain⟨ap,cp',rfl⟩:=hp.len;have hz0:((0:El f).val:Int)=0:=rfl;have hcast:((p.length:Int)+1)=((p.length+1:Nat):Int):=byO;unfold arV;refine stG rfl rfl ?_;unfold Kt;simp only[kB,aC];refine aD ?_;generalize hG:H++_=G at *;have g0:G.get H.length=some (arC f be bl):=by rw[<-hG];exact aH
 have g1:G.get (H.length+1)=some (elL (tab (p.length+1) (fun _=>(0:El f)))):=by
  rw[<-hG,bO,<-eu];show some _=some _;congr 1;simp[elL,ak,qO,List.replicate_succ,qL]
 have hxG:Ext H G:=by rw[<-hG];exact Ext.app _ _
 clear hG hcast;refine aT (fun i S H'=>Ext H H'/\H'.get H.length=some (arC f be bl)/\H'.get (H.length+1)=some (elL (tab (p.length+1) (fun k=>if k<i then cv (co p) (mon r) k else if k=i/\0<i then co p (i-1) else 0)))/\∃(z:Nat->Value),S=[z 0,z 1,.int .i64 (r.val:Nat),z 3,.pointer (some ⟨H.length,0,none⟩),.slice none 0 0,.slice (some ⟨H.length+1,0,none⟩) (p.length+1) (p.length+1),z 7,z 8,z 9,.slice ap p.length cp',.int .i64 (p.length:Nat),.int .i64 (i:Nat),z 13,z 14,z 15,z 16,z 17,z 18]) p.length ?_ ?_ ?_ ?_
 ·refine⟨hxG,g0,?_,aJ rfl⟩
  rw[g1];refine congrArg (fun t=>some (elL t)) ?_;refine aS fun k _=>?_;rw[if_neg byO,if_neg byO]
 ·rintro i S H' hi ⟨hx,f0,f1,z,rfl⟩
  exact⟨_,bD,by simp⟩
 ·clear g0 g1 hxG
  rintro i S H1 hi ⟨hx1,f0,f1,z,rfl⟩;obtain⟨b,o,sp,cap,xs,e,gx,hat,hxl⟩:=ek hp0 byO;cases e;have gx:=hx1.get gx;have hati:=hat i hi;have hget:(tab (p.length+1) (fun k=>if k<i then cv (co p) (mon r) k else if k=i/\0<i then co p (i-1) else 0)).getD i 0-co p i*r=cv (co p) (mon r) i:=by
   rw[fj byO,if_neg byO];cases i with
   | zero=>rw[if_neg byO,xJ];exact(show(0-(co p 0*r))=(-(co p 0*r)) from bG [(co p 0*r)] (.add .zero (.neg (.v 0))) (.neg (.v 0)) rfl)
   | succ i=>rw[if_pos ⟨rfl,byO⟩,zH];rfl
  have hset:((tab (p.length+1) (fun k=>if k<i then cv (co p) (mon r) k else if k=i/\0<i then co p (i-1) else 0)).set i (cv (co p) (mon r) i)).set (i+1) (co p i)=tab (p.length+1) (fun k=>if k<i+1 then cv (co p) (mon r) k else if k=i+1/\0<i+1 then co p (i+1-1) else 0):=by
   rw[gO,gO];refine aS fun k hk=>?_;by_cases e:k=i+1
   ·rw[if_pos e,if_neg byO,if_pos ⟨e,byO⟩,Nat.add_sub_cancel]
   ·rw[if_neg e]
    by_cases e2:k=i
    ·rw[if_pos e2,if_pos byO,e2]
    ·rw[if_neg e2]
     by_cases h2:k<i
     ·rw[if_pos h2,if_pos byO]
     ·rw[if_neg h2,if_neg byO,if_neg byO,if_neg byO]
  have hlen2:(tab (p.length+1) (fun k=>if k<i then cv (co p) (mon r) k else if k=i/\0<i then co p (i-1) else 0)).length<=p.length+1/\p.length+1<=(tab (p.length+1) (fun k=>if k<i then cv (co p) (mon r) k else if k=i/\0<i then co p (i-1) else 0)).length:=by rw[aK];omega
  generalize tab (p.length+1) (fun k=>if k<i then cv (co p) (mon r) k else if k=i/\0<i then co p (i-1) else 0)=T at *;have hi1:((i:Int)+1)=((i+1:Nat):Int):=byO;have hl1:=Heap.get_lt f1;clear hat;refine aD ?_;refine aV ?_;refine aa (QZ hg (ha.mono hx1) (co p i) r) ?_;rintro v H2 ⟨hx2,rfl⟩;have f0:=(hx2).get f0;have f1:=(hx2).get f1;have hx2:=hx1.trans hx2;(try simp only[aC]);refine aV ?_;refine aA (RN (T.getD i 0) (co p i*r)) ?_;rintro v H3 ⟨hx3,rfl⟩;rw[hget];have f0:=(hx3).get f0;have f1:=(hx3).get f1;have hx3:=hx2.trans hx3;have hl3:=Heap.get_lt f1;clear hget;refine aD ?_;refine⟨(hx3.set (by omega)).set (by omega),by simp(disch:=try exact dO)only[evB,xtr,Nat.reduceAdd,Nat.reduceBEq, *],?_,aJ ncM⟩;rw[aE (by simp;omega)]
 ·rintro S H1 ⟨hx1,f0,f1,z,rfl⟩
  refine aD ?_;refine az ?_;refine⟨hx1,H.length+1,byO,rfl,?_⟩;rw[f1];refine congrArg (fun t=>some (elL t)) ?_;refine aS fun k hk=>?_;by_cases h1:k<p.length
  ·rw[if_pos h1]
  ·have hk2:k=p.length:=byO
   rw[if_neg h1];subst hk2;cases hpl':p.length with
   | zero=>
    rw[if_neg byO,xJ,fY byO,zero_mul,neg_zero]
   | succ n=>
    rw[if_pos ⟨rfl,byO⟩,zH,fY (l:=p) (i:=n+1) byO,zero_mul];show co p n=co p n-0;exact(show(co p n)=((co p n)-0) from bG [(co p n)] (.v 0) (.add (.v 0) (.neg .zero)) rfl)
end
open Go.Abs Go.RS
section
variable {f:FD}[OkC f]
theorem Jf:Ev cp lo 105 [fvf f,.slice none 0 0] H (fun v H'=>Ext H H'/\v=.bool true):=by
 unfold fvf fv;refine stG rfl rfl ?_;unfold D9;simp only[kB,aC];refine aD ?_;refine aV ?_;refine aA (valid (ch:=FD.ch f) (sz:=f.q) (po:=f.poly) (jR (OkC.ok (f:=f)))) ?_;rintro v H1 ⟨hx1,b,rfl,hb⟩;have hbt:b=true:=hb.2 (jk (OkC.ok (f:=f)));subst hbt;have hx1:=hx1.of_app;(try simp only[aC]);refine ah ?_ ?_<;>intro h
 ·cases h
 clear h;refine aD ?_;refine aT (fun i S H'=>H1=H'/\∃(z:Nat->Value),S=[z 0,z 1,z 2,.bool false,z 4,z 5,z 6,.slice none 0 0,.int .i64 0,.int .i64 0,z 10,z 11]) 0 ?_ ?_ ?_ ?_
 ·exact⟨rfl,aJ rfl⟩
 ·rintro i S H' hi ⟨rfl,z,rfl⟩
  exact⟨_,bD,by simp⟩
 ·rintro i S H' hi _
  omega
 ·rintro S H' ⟨rfl,z,rfl⟩
  refine aD ?_;refine az ?_;exact⟨hx1,rfl⟩
structure PolyOK (l:List (El f)):Prop where
 len:l.length<=4097
 last:l.length=0\/co l (l.length-1)≠0
set_option maxHeartbeats 1000000 in
theorem Jg{vp vq:Value}{p q:List (El f)}{bb:Nat}(hp:SlE H vp p)(hq:SlE H vq q)(hpo:PolyOK p)(hqo:PolyOK q)(hb:H.get bb=some [vp,vq]):Ev cp lo 105 [fvf f,.slice (some ⟨bb,0,none⟩) 2 2] H (fun v H'=>Ext H H'/\v=.bool true):=by
 unfold fvf fv;refine stG rfl rfl ?_;unfold D9;simp only[kB,aC];refine aD ?_;refine aV ?_;refine aA (valid (ch:=FD.ch f) (sz:=f.q) (po:=f.poly) (jR (OkC.ok (f:=f)))) ?_;rintro v H1 ⟨hx1,b,rfl,hbv⟩;have hbt:b=true:=hbv.2 (jk (OkC.ok (f:=f)));subst hbt;have g0:H1.get H.length=some _:=hx1.get bD;have hx1:=hx1.of_app;have hb:=hx1.get hb;(try simp only[aC]);refine ah ?_ ?_<;>intro h
 ·cases h
 clear h;refine aD ?_;refine aT (fun i S H'=>Ext H1 H'/\∃(z:Nat->Value),S=[z 0,z 1,.pointer (some ⟨H.length,0,none⟩),.bool false,z 4,z 5,z 6,.slice (some ⟨bb,0,none⟩) 2 2,.int .i64 2,.int .i64 (i:Nat),z 10,z 11]) 2 ?_ ?_ ?_ ?_
 ·exact⟨Ext.refl _,aJ rfl⟩
 ·rintro i S H' hi ⟨hx,z,rfl⟩
  exact⟨_,bD,by simp;try omega⟩
 ·rintro i S H2 hi ⟨hx2,z,rfl⟩
  have f0:=hx2.get g0;have fb:=hx2.get hb;obtain⟨vi,li,hgi,hsl,hok⟩:∃(vi:Value) (li:List (El f)),[vp,vq][i]?=some vi/\SlE H vi li/\PolyOK li:=by
   have:i=0\/i=1:=byO;rcases this with rfl|rfl
   ·exact⟨vp,p,rfl,hp,hpo⟩
   ·exact⟨vq,q,rfl,hq,hqo⟩
  have hsl2:=hsl.mono (hx1.trans hx2);have hsl3:=hsl2;obtain⟨ai,ci,rfl⟩:=hsl.len;have hlen:=hok.len;generalize hvl:[vp,vq]=VL at *;have hVl:VL.length<=2/\2<=VL.length:=by rw[<-hvl];simp
  clear hvl hp hq;refine aD ?_;by_cases hz:li.length=0
  ·have hz1:¬ (4097:Int)<li.length:=byO
   have hz2:¬ (0:Int)<li.length:=byO;clear hz;refine bJ (t:=true) bD ki qV (fun _=>⟨_,bD,?_⟩) (fun h=>by cases h);refine aA (pA (ch:=FD.ch f) (sz:=f.q) (po:=f.poly) (o6 hsl3) (by rw[dW];omega)) ?_;rintro v H3 ⟨hx3,rfl⟩;rw[ij];(try simp only[aC]);refine ah ?_ ?_<;>intro h
   ·cases h
   clear h;refine aD ?_;exact⟨hx2.trans hx3,aJ ncM⟩
  ·have hlast:=hok.last.resolve_left hz
   obtain⟨b',o,sp,cap,xs,e,gx,hat,hxl⟩:=ek hsl2 byO;cases e;have hati:=hat (li.length-1) byO;have e1:((li.length:Int)-1)=((li.length-1:Nat):Int):=byO;have hz1:¬ (4097:Int)<li.length:=byO;have hz2:(0:Int)<li.length:=byO;have hnz:¬ ((co li (li.length-1)).val:Int)=0:=by have:=jO hlast;omega
   clear hat;refine bJ (t:=true) bD ki qV (fun _=>⟨_,bD,?_⟩) (fun h=>by cases h);refine aA (pA (ch:=FD.ch f) (sz:=f.q) (po:=f.poly) (o6 hsl3) (by rw[dW];omega)) ?_;rintro v H3 ⟨hx3,rfl⟩;rw[ij];(try simp only[aC]);refine ah ?_ ?_<;>intro h
   ·cases h
   clear h;refine aD ?_;exact⟨hx2.trans hx3,aJ ncM⟩
 ·rintro S H2 ⟨hx2,z,rfl⟩
  refine aD ?_;refine az ?_;exact⟨hx1.trans hx2,rfl⟩
theorem zU{g:El f}{rs:List (El f)}(hlo:lo<=H.length)(hg:Gn (OkC.ok (f:=f)) g)(hr:SlE H v rs)(hrl:rs.length<=4096) :
  Ev cp lo 104 [fvf f,v] H (fun v H'=>Ext H H'/\∃vp,v=.tuple #[vp,.int .i64 0]/\SlE H' vp (qR (co rs) rs.length)):=by
 have hr0:=hr;obtain⟨ar,cr,rfl⟩:=hr.len;unfold fvf fv;refine stG rfl rfl ?_;unfold KW;simp only[kB,aC];refine aD ?_;refine aV ?_;refine aA (Jf (f:=f)) ?_;rintro v H1 ⟨hx1,rfl⟩;have g0:H1.get H.length=some _:=hx1.get bD;have hx1:=hx1.of_app;have hl1:=hx1.1;(try simp only[aC]);refine bJ (t:=true) bD ki qV (fun _=>⟨_,bD,?_⟩) (fun h=>by cases h);refine aA (pA (ch:=FD.ch f) (sz:=f.q) (po:=f.poly) (o6 (hr0.mono hx1)) (by rw[dW];omega)) ?_;rintro v H2 ⟨hx2,rfl⟩;rw[ij];have g0:=hx2.get g0;have hx2:=hx1.trans hx2;have hl2:=Heap.get_lt g0;(try simp only[aC]);refine ah ?_ ?_<;>intro h
 ·cases h
 clear h;(try simp only[aC]);refine ah ?_ ?_<;>intro h
 ·simp at h;omega
 clear h;(try simp only[aC]);refine aV ?_;refine aA (uJ (f:=f) byO hg) ?_;rintro v H3 ⟨hx3,be,bl,hbe,hbl,rfl,harith⟩;have hx3:=hx2.trans hx3;have hl3:=hx3.1;unfold arV;refine aD ?_;generalize hG:H3++_=G at *;have g1:G.get H3.length=some (arC f be bl):=by rw[<-hG];exact aH
 have g2:G.get (H3.length+1)=some (elL (qR (co rs) 0)):=by rw[<-hG,bO];rfl
 have hxG:Ext H3 G:=by rw[<-hG];exact Ext.app _ _
 have harith:=harith.mono hxG;clear hG;have hxG:=hx3.trans hxG;generalize H3.length=p3 at *;refine aT (fun i S H'=>Ext G H'/\∃bb,H'.get bb=some (elL (qR (co rs) i))/\∃(z:Nat->Value),S=[z 0,z 1,.pointer (some ⟨H.length,0,none⟩),.slice none 0 0,.int .i64 0,.pointer (some ⟨p3,0,none⟩),.slice (some ⟨bb,0,none⟩) (i+1) (i+1),z 7,z 8,z 9,z 10,z 11,z 12,.slice ar rs.length cr,.int .i64 (rs.length:Nat),.int .i64 (i:Nat),z 16]) rs.length ?_ ?_ ?_ ?_
 ·exact⟨Ext.refl _,p3+1,g2,aJ rfl⟩
 ·rintro i S H' hi ⟨hx,bb,fb,z,rfl⟩
  exact⟨_,bD,by simp⟩
 ·clear g2
  rintro i S H4 hi ⟨hx4,bb,fb,z,rfl⟩;have hl4:=(hxG.trans hx4).1;obtain⟨b',o,sp,cap,xs,e,gx,hat,hxl⟩:=ek hr0 byO;cases e;have gx:=(hxG.trans hx4).get gx;have f1:=hx4.get g1;have hati:=hat i hi;have hgl:=rX (co rs) i;have hs1:=cK (sp:=none) fb hgl;clear hat;refine aD ?_;refine aV ?_;refine aA (IY byO hg (harith.mono hx4) hs1 (by rw[hgl];omega) (co rs i)) ?_;rintro v H5 ⟨hx5,b5,hb5,rfl,f5⟩;rw[hgl]at f5 ⊢;have hgen:tab (i+1+1) (cv (co (qR (co rs) i)) (mon (co rs i)))=qR (co rs) (i+1):=by rw[ux];rfl
  rw[hgen]at f5;have hx5:=hx4.trans hx5;clear hgl;refine aD ?_;exact⟨hx5,b5,f5,aJ ncM⟩
 ·rintro S H4 ⟨hx4,bb,fb,z,rfl⟩
  refine aD ?_;refine az ?_;refine⟨hxG.trans hx4,_,rfl,?_⟩;exact cK (sp:=none) fb (rX _ _)
end
section
variable {f:FD}[OkC f]
theorem DP{z:List Value}{b o c:Nat}{sp:Option Nat}{xs:List Value}(hb:H.get b=some xs)(ho:o<=xs.length)(k:R (.slice none 0 0) H):wpH cp lo (.app 1 z) [.slice none 0 0,.slice (some ⟨b,o,sp⟩) 0 c] H R:=by
 simp only[wpH,c9,hsem,Heap.cells,hb,Nat.zero_mul,Nat.add_zero,ho,if_true,ao₀,List.take_zero,oneCells,List.all_nil,aZ,Nat.le_refl];exact k
theorem tD{z:List Value}{c:Nat}(k:R (.slice none 0 0) H):wpH cp lo (.app 1 z) [.slice none 0 0,.slice none 0 c] H R:=by
 simp only[wpH,c9,hsem,if_true,aZ,Nat.add_zero,Nat.le_refl];exact k
theorem lp{z:List Value}{b o c n:Nat}{sp:Option Nat}{xs:List Value}{l:List (El f)}(hlo:lo<=H.length)(hb:H.get b=some xs)(ho:o+n<=xs.length)(hx:(xs.drop o).take n=elL l)(hn:n<=4000000000)
  (k:∀v' H',Own lo 1 H' v' H.length (elL l)->Ext H H'->R v' H'):wpH cp lo (.app 1 z) [.slice none 0 0,.slice (some ⟨b,o,sp⟩) n c] H R:=by
 have hll:l.length=n:=by
  have:=congrArg List.length hx;rw[dQ,List.length_take,List.length_drop]at this;omega
 by_cases h0:n=0
 ·subst h0
  have:l=[]:=List.length_eq_zero_iff.1 hll;subst this;exact DP hb byO (k _ _ (Own.nil hlo) (Ext.refl _))
 ·refine gQ (b:=H.length) (cells:=[]) (c:=elL l) (Own.nil hlo) hlo byO byO (by simp;omega) hb byO (by rw[Nat.mul_one];exact hx) (vC l) ?_
  intro v' H' h1 h2 h3;exact k v' H' (by simpa using h1) ⟨byO,fun i hi=>h2.eq i hi byO⟩
theorem yW{xs:List Value}{o n:Nat}{p:List (El f)}(h:(xs.drop o).take p.length=p.map qO)(hn:n<=p.length):(xs.drop o).take n=elL (p.take n):=by
 have:((xs.drop o).take p.length).take n=(p.map qO).take n:=by rw[h]
 rw[List.take_take,Nat.min_eq_left hn,<-List.map_take]at this;exact this
theorem HD{p:List (El f)}(hlo:lo<=H.length)(hp:SlE H v p)(hpl:p.length<=100000000):Ev cp lo 62 [v] H (fun v H'=>Ext H H'/\SlE H' v (trim p)):=by
 rcases hp with ⟨rfl,rfl⟩|⟨b,o,sp,cap,xs,rfl,hb,hx,hxl,hsp,hcap⟩
 ·refine stG rfl rfl ?_;unfold MR;simp only[kB,aC]
  refine aD ?_;refine bK (fun m S H'=>H=H'/\S=[.slice none 0 0,.slice none 0 0,.int .i64 0,undef]) 0 ⟨rfl,rfl⟩ ?_;rintro m S H' ⟨rfl,rfl⟩;(try simp only[aC]);refine ah ?_ ?_<;>intro h
  ·simp at h
  clear h;(try simp only[aC]);refine aV ?_;refine tD ?_;refine aD ?_;refine az ?_;exact⟨Ext.refl _,.inl ⟨rfl,rfl⟩⟩
 have hat:∀i,i<p.length->xs[o+i]?=some (.int .i64 ((co p i).val:Nat)):=by
  intro i hi;have e:((xs.drop o).take p.length)[i]?=(p.map qO)[i]?:=by rw[hx]
  rw[List.getElem?_take,if_pos hi,List.getElem?_drop]at e;rw[e,az₀,bc₀ hi,pn hi];rfl
 refine stG rfl rfl ?_;unfold MR;simp only[kB,aC];refine aD ?_;refine bK (fun m S H'=>H=H'/\m<=p.length/\(∀i,m<=i->co p i=0)/\∃z3,S=[.slice (some ⟨b,o,sp⟩) p.length cap,.slice none 0 0,.int .i64 (m:Nat),z3]) p.length ?_ ?_
 ·exact⟨rfl,Nat.le_refl _,fun i hi=>fY hi,_,rfl⟩
 rintro m S H' ⟨rfl,hm,hz,z3,rfl⟩;have hfin:(∀v' H',Own lo 1 H' v' H.length (elL (p.take m))->Ext H H'->trim p=p.take m->Ext H H'/\SlE H' v' (trim p)):=by
  intro v' H' h1 h2 h3;exact⟨h2,by rw[h3];exact Sl.ofOwn h1⟩
 by_cases hm0:m=0
 ·subst hm0
  (try simp only[aC]);refine ah ?_ ?_<;>intro h
  ·simp at h
  clear h;have ht:trim p=p.take 0:=by rw[<-p9 (n:=0) byO hz];rfl
  (try simp only[aC]);rcases hsp with rfl|rfl
  ·refine aV ?_
   refine lp (l:=p.take 0) hlo hb (by simp;omega) (by simp[elL]) (by simp) ?_;intro v' H' h1 h2;refine aD ?_;refine az ?_;exact hfin v' H' h1 h2 ht
  ·refine aV ?_
   refine lp (l:=p.take 0) hlo hb (by simp;omega) (by simp[elL]) (by simp) ?_;intro v' H' h1 h2;refine aD ?_;refine az ?_;exact hfin v' H' h1 h2 ht
 have hati:=hat (m-1) byO;have e1:((m:Int)-1)=((m-1:Nat):Int):=byO;have hmp:(0:Int)<m:=byO;(try simp only[aC]);refine ah ?_ ?_<;>intro h
 ·have hc:co p (m-1)=0:=dS (by simp at h;omega)
  clear h;clear hat hati;refine aD ?_;simp only[cM];refine⟨m-1,byO,by trivial,byO,fun i hi=>?_,_,rfl⟩;by_cases e:i=m-1
  ·rw[e];exact hc
  ·exact hz i byO
 ·have hc:co p (m-1)≠0:=fun e=>by rw[e,qL]at h;simp at h;try omega
  clear h;have ht:trim p=p.take m:=by
   rw[<-p9 hm hz];have:=u9 (l:=p) (n:=m-1) byO hc;rwa [show m-1+1=m by omega]at this
  clear hat hati e1;(try simp only[aC]);rcases hsp with rfl|rfl
  ·refine aV ?_
   refine lp (l:=p.take m) hlo hb (by first|omega|(simp;omega)) (by simpa using yW hx hm) (by first|omega|(simp;omega)) ?_;intro v' H' h1 h2;refine aD ?_;refine az ?_;exact hfin v' H' h1 h2 ht
  ·refine aV ?_
   refine lp (l:=p.take m) hlo hb (by first|omega|(simp;omega)) (by simpa using yW hx hm) (by first|omega|(simp;omega)) ?_;intro v' H' h1 h2;refine aD ?_;refine az ?_;exact hfin v' H' h1 h2 ht
end
section
variable {f:FD}[OkC f]
structure DivR (p q R:List (El f))(Q:Ser (El f))(m:Nat):Prop where
 len:R.length=p.length
 eq:∀k,co p k=cv Q (co q) k+co R k
 top:∀k,m<=k->co R k=0
 qz:∀k,p.length<=k->Q k=0
set_option maxHeartbeats 4000000 in
theorem IK{be bl:Nat}{g:El f}{vp vq:Value}{p q:List (El f)}(hlo:lo<=H.length)(hg:Gn (OkC.ok (f:=f)) g)(ha:ArH H g be bl)(hp:SlE H vp p)(hq:SlE H vq q)(hpl:p.length<=10000000)(hql:q.length<=10000000)(hq0:0<q.length)(hqt:co q (q.length-1)≠0) :
  Ev cp lo 107 [arV f be bl,vp,vq] H (fun v H'=>Ext H H'/\∃vt vr R Q,v=.tuple #[vt,vr]/\SlE H' vr (trim R)/\DivR p q R Q (q.length-1)):=by
 have hp0:=hp;have hq0':=hq;obtain⟨b',o',sp',capq,ys,eq',gy,hay,hyl⟩:=ek hq hq0;cases eq';have hby:=Heap.get_lt gy;have hcopy:∀(G:Heap) (R:Value->Heap->Prop) (z:List Value),Ext H G->(∀v' H',Own lo 1 H' v' G.length (elL p)->Ext G H'->R v' H')->wpH cp lo (.app 1 z) [.slice none 0 0,vp] G R:=by
  intro G R z hG k;rcases hp with ⟨rfl,rfl⟩|⟨b,o,sp,cap,xs,rfl,hb,hx,hxl,_⟩
  ·exact tD (k _ _ (Own.nil (Nat.le_trans hlo hG.1)) (Ext.refl _))
  ·exact lp (Nat.le_trans hlo hG.1) (hG.get hb) hxl hx byO k
 obtain⟨ap,capp,rfl⟩:=hp0.len;have htop:((q.length:Int)-1)=((q.length-1:Nat):Int):=byO;unfold arV;refine stG rfl rfl ?_;unfold KY;simp only[kB,aC];refine aD ?_;generalize hG:H++_=G at *;have g0:G.get H.length=some (arC f be bl):=by rw[<-hG];exact aH
 have hxG:Ext H G:=by rw[<-hG];exact Ext.app _ _
 have hGl:G.length=H.length+1:=by rw[<-hG];simp
 clear hG;refine aV ?_;refine hcopy G _ _ hxG ?_;intro v5 H1 hown hx1;clear hcopy;have g0:=hx1.get g0;have hx1:=hxG.trans hx1;have hl1:=hx1.1;rw[hGl]at hown;clear hxG hGl;refine aD ?_;generalize htE:q.length-1=top at *;by_cases hlen:top<p.length;rotate_left
 ·
  refine ah ?_ ?_<;>intro h
  ·simp at h;omega
  clear h;refine aD ?_;refine bK (fun m S H'=>H1=H'/\∃z4 z5 z6 z7:Value,m=0/\z4=.slice none 0 0/\v5=z5/\z7=.int .i64 (-1)/\∃z0 z1 z2 z3 z8 z9 z10 z11 z12 z13 z14 z15 z16 z17 z18 z19 z20 z21 z22 z23 z24,S=[z0,z1,z2,z3,z4,z5,z6,z7,z8,z9,z10,z11,z12,z13,z14,z15,z16,z17,z18,z19,z20,z21,z22,z23,z24]) 0 ⟨rfl,_,_,_,_,rfl,rfl,rfl,rfl,_,_,_,_,_,_,_,_,_,_,_,_,_,_,_,_,_,_,_,_,_,rfl⟩ ?_;rintro m S H' ⟨rfl,z4,z5,z6,z7,rfl,rfl,rfl,rfl,z0,z1,z2,z3,z8,z9,z10,z11,z12,z13,z14,z15,z16,z17,z18,z19,z20,z21,z22,z23,z24,rfl⟩;(try simp only[aC]);refine ah ?_ ?_<;>intro h
  ·simp at h
  clear h;have hsl:SlE H1 v5 p:=Sl.ofOwn hown;(try simp only[aC]);refine aV ?_;refine aA (HD byO hsl byO) ?_;rintro v H2 ⟨hx2,hs2⟩;refine aD ?_;refine az ?_;refine⟨hx1.trans hx2,_,_,p,fun _=>0,rfl,hs2,rfl,fun k=>?_,fun k hk=>fY byO,fun _ _=>rfl⟩;rw[dI,oA];exact(zero_add _).symm
 obtain⟨hb5,⟨_,e⟩|⟨n5,hn5,hn5l,rfl,f5⟩⟩:=hown
 ·exfalso
  have:=congrArg List.length e;rw[dQ,an₀]at this;omega
 rw[dQ,Nat.mul_one]at hn5l;subst hn5l;have hsub:((p.length:Int)-(top:Int))=((p.length-top:Nat):Int):=byO;refine ah ?_ ?_<;>intro h;rotate_left
 ·exfalso;simp at h;try omega
 clear h;refine aD ?_;generalize hM:H1.length=M at *;have hb5M:=Heap.get_lt f5;rw[hM]at hb5M;have hm1:(((p.length-top:Nat):Int)-1)=((p.length-top:Nat):Int)-1:=rfl;clear hsub;refine bK (fun i S H'=>Ext H H'/\i<=p.length-top/\H'.get H.length=some (arC f be bl)/\∃(R Qv:List (El f)) (Q:Ser (El f)),H'.get (H.length+1)=some (elL R)/\H'.get M=some (elL Qv)/\Qv.length=p.length-top/\DivR p q R Q (i+top)/\∃(z:Nat->Value),S=[z 0,z 1,.slice (some ⟨b',o',sp'⟩) q.length capq,.pointer (some ⟨H.length,0,none⟩),.slice (some ⟨M,0,none⟩) (p.length-top) (p.length-top),.slice (some ⟨H.length+1,0,some 1⟩) p.length p.length,.int .i64 (top:Nat),.int .i64 ((i:Nat)-1),z 8,z 9,z 10,z 11,z 12,z 13,z 14,z 15,z 16,z 17,z 18,z 19,z 20,z 21,z 22,z 23,z 24]) (p.length-top) ?_ ?_
 ·refine⟨hx1.trans (Ext.app _ _),Nat.le_refl _,by simp(disch:=try exact dO)only[evB,xtr,Nat.reduceAdd,Nat.reduceBEq, *],p,List.replicate (p.length-top) 0,fun _=>0,by simp(disch:=try exact dO)only[evB,xtr,Nat.reduceAdd,Nat.reduceBEq, *],by rw[<-hM,aH],by simp,⟨rfl,fun k=>?_,fun k hk=>fY (by omega),fun _ _=>rfl⟩,aJ rfl⟩
  rw[dI,oA];exact(zero_add _).symm
 clear g0 f5 hm1;rintro m S H2 ⟨hx2,hmle,f0,R,Qv,Q,f5,fM,hQl,hdiv,z,rfl⟩;by_cases hm0:m=0
 ·subst hm0
  (try simp only[aC]);refine ah ?_ ?_<;>intro h
  ·simp at h
  clear h;have hRl:=hdiv.len;have hl2:=hx2.1;have hsl:SlE H2 (.slice (some ⟨H.length+1,0,some 1⟩) p.length p.length) R:=cK f5 hRl;(try simp only[aC]);refine aV ?_;refine aA (HD byO hsl byO) ?_;rintro v H3 ⟨hx3,hs3⟩;refine aD ?_;refine az ?_;rw[Nat.zero_add]at hdiv;exact⟨hx2.trans hx3,_,_,R,Q,rfl,hs3,hdiv⟩
 obtain⟨i,rfl⟩:∃i,m=i+1:=⟨m-1,byO⟩;have e1:(((i+1:Nat):Int)-1)=(i:Int):=byO;rw[e1];have hRl:=hdiv.len;have hRl2:R.length<=p.length/\p.length<=R.length:=byO;have hQl2:Qv.length<=p.length-top/\p.length-top<=Qv.length:=byO;have gy2:=hx2.get gy;have hat:=hay top byO;have hit:((i:Int)+(top:Int))=((i+top:Nat):Int):=byO;have hcoR:R.getD (i+top) 0=co R (i+top):=rfl;have hl2:=hx2.1;clear hm0;(try simp only[aC]);refine ah ?_ ?_<;>intro h;rotate_left
 ·exfalso;simp at h;try omega
 clear h;refine aD ?_;refine aV ?_;refine aA (Ro hg (ha.mono hx2) (co R (i+top)) (co q top) hqt) ?_;rintro v H3 ⟨hx3,rfl⟩;have f0:=(hx3).get f0;have f5:=(hx3).get f5;have fM:=(hx3).get fM;have gy2:=(hx3).get gy2;have hx3:=hx2.trans hx3;have hMl:=Heap.get_lt fM;generalize hc:co R (i+top)*inv (co q top)=c at *;clear hat hit hcoR;refine aD ?_;generalize hG4:List.set H3 M _=H4 at *;have f0:Heap.get H4 H.length=some (arC f be bl):=by rw[<-hG4,aF byO];exact f0
 have f5:Heap.get H4 (H.length+1)=some (elL R):=by rw[<-hG4,aF byO];exact f5
 have fM:Heap.get H4 M=some (elL (Qv.set i c)):=by rw[<-hG4,aE byO]
 have hx4:Ext H H4:=by rw[<-hG4];exact hx3.set byO
 have hQl3:(Qv.set i c).length=p.length-top:=by rw[List.length_set];exact hQl
 generalize Qv.set i c=Qv' at *;clear hG4 hx3 hMl hQl hQl2 gy2;refine aT (fun j S H'=>Ext H H'/\H'.get H.length=some (arC f be bl)/\H'.get (H.length+1)=some (elL (tab p.length (fun k=>if i<=k/\k<i+j then co R k-c*co q (k-i) else co R k)))/\H'.get M=some (elL Qv')/\∃(z:Nat->Value),S=[z 0,z 1,.slice (some ⟨b',o',sp'⟩) q.length capq,.pointer (some ⟨H.length,0,none⟩),.slice (some ⟨M,0,none⟩) (p.length-top) (p.length-top),.slice (some ⟨H.length+1,0,some 1⟩) p.length p.length,.int .i64 (top:Nat),.int .i64 (i:Nat),.int .i64 (c.val:Nat),z 9,z 10,z 11,z 12,z 13,.slice (some ⟨b',o',sp'⟩) q.length capq,.int .i64 (q.length:Nat),.int .i64 (j:Nat),z 17,z 18,z 19,z 20,z 21,z 22,z 23,z 24]) q.length ?_ ?_ ?_ ?_
 ·refine⟨hx4,f0,?_,fM,aJ rfl⟩
  rw[f5];refine congrArg (fun t=>some (elL t)) ?_;refine HB hRl fun k _=>?_;rw[if_neg byO]
 ·rintro j S H' hj ⟨hx,f0,f5,fM,z,rfl⟩
  exact⟨_,bD,by simp⟩
 ·clear f0 f5 fM hx4
  rintro j S H4 hj ⟨hx4,f0,f5,fM,z,rfl⟩;have gy2:=hx4.get gy;have hayj:=hay j hj;have hget:(tab p.length (fun k=>if i<=k/\k<i+j then co R k-c*co q (k-i) else co R k)).getD (i+j) 0=co R (i+j):=by rw[fj byO,if_neg byO]
  have hset:(tab p.length (fun k=>if i<=k/\k<i+j then co R k-c*co q (k-i) else co R k)).set (i+j) (co R (i+j)-c*co q j)=tab p.length (fun k=>if i<=k/\k<i+(j+1) then co R k-c*co q (k-i) else co R k):=by
   rw[gO];refine aS fun k hk=>?_;by_cases e:k=i+j
   ·rw[if_pos e,if_pos byO,e,show i+j-i=j by omega]
   ·rw[if_neg e]
    by_cases h2:i<=k/\k<i+j
    ·rw[if_pos h2,if_pos byO]
    ·rw[if_neg h2,if_neg byO]
  have hlen2:(tab p.length (fun k=>if i<=k/\k<i+j then co R k-c*co q (k-i) else co R k)).length<=p.length/\p.length<=(tab p.length (fun k=>if i<=k/\k<i+j then co R k-c*co q (k-i) else co R k)).length:=by rw[aK];omega
  generalize tab p.length (fun k=>if i<=k/\k<i+j then co R k-c*co q (k-i) else co R k)=T at *;have hin:((i:Int)+(j:Int))=((i+j:Nat):Int):=byO;have hl4:=Heap.get_lt f5;refine aD ?_;refine aV ?_;refine aa (QZ hg (ha.mono hx4) c (co q j)) ?_;rintro v H5 ⟨hx5,rfl⟩;have f0:=(hx5).get f0;have f5:=(hx5).get f5;have fM:=(hx5).get fM;have hx5:=hx4.trans hx5;(try simp only[aC]);refine aV ?_;refine aA (RN (co R (i+j)) (c*co q j)) ?_;rintro v H6 ⟨hx6,rfl⟩;have f0:=(hx6).get f0;have f5:=(hx6).get f5;have fM:=(hx6).get fM;have hx6:=hx5.trans hx6;have hl6:=Heap.get_lt f5;clear hget;refine aD ?_;exact⟨hx6.set (by omega),by simp(disch:=try exact dO)only[evB,xtr,Nat.reduceAdd,Nat.reduceBEq, *],by rw[aE (by omega)],by simp(disch:=try exact dO)only[evB,xtr,Nat.reduceAdd,Nat.reduceBEq, *],aJ ncM⟩
 ·clear f0 f5 fM hx4
  rintro S H4 ⟨hx4,f0,f5,fM,z,rfl⟩;refine aD ?_;simp only[cM];refine⟨i,byO,hx4,byO,f0,_,Qv',fun k=>Q k+c*sh i (s1:Ser (El f)) k,f5,fM,hQl3,⟨aK _ _,fun k=>?_,fun k hk=>?_,fun k hk=>?_⟩,aJ rfl⟩
  ·rw[hdiv.eq k,rD,oy,E0,iZ,cm]
   have hR0:p.length<=k->co R k=0:=fun h=>fY byO;by_cases h1:k<p.length
   ·rw[if_pos h1]
    by_cases h2:i<=k/\k<i+q.length
    ·rw[if_pos h2,iz _ h2.1]
     exact(show((cv Q (co q) k)+(co R k))=(((cv Q (co q) k)+(c*(co q (k-i))))+((co R k)-(c*(co q (k-i))))) from bG [(cv Q (co q) k),(co R k),c,(co q (k-i))] (.add (.v 0) (.v 1)) (.add (.add (.v 0) (.mul (.v 2) (.v 3))) (.add (.v 1) (.neg (.mul (.v 2) (.v 3))))) rfl)
    ·rw[if_neg h2]
     have hs0:sh i (co q) k=0:=by
      by_cases h3:i<=k
      ·rw[iz _ h3,fY byO]
      ·rw[mz _ byO]
     rw[hs0];exact(show((cv Q (co q) k)+(co R k))=(((cv Q (co q) k)+(c*0))+(co R k)) from bG [(cv Q (co q) k),(co R k),c] (.add (.v 0) (.v 1)) (.add (.add (.v 0) (.mul (.v 2) .zero)) (.v 1)) rfl)
   ·rw[if_neg h1,hR0 byO]
    have hs0:sh i (co q) k=0:=by rw[iz _ byO,fY byO]
    rw[hs0];exact(show((cv Q (co q) k)+0)=(((cv Q (co q) k)+(c*0))+0) from bG [(cv Q (co q) k),c] (.add (.v 0) .zero) (.add (.add (.v 0) (.mul (.v 1) .zero)) .zero) rfl)
  ·rw[cm]
   split
   ·by_cases h2:i<=k/\k<i+q.length
    ·rw[if_pos h2]
     have hkt:k=i+top:=byO;rw[hkt,show i+top-i=top by omega,<-hc,mul_assoc,inv_mul hqt,mul_one,sub_self]
    ·rw[if_neg h2]
     exact hdiv.top k byO
   ·rfl
  ·show Q k+c*sh i (s1:Ser (El f)) k=0
   rw[hdiv.qz k hk,iz _ byO];unfold s1;rw[if_neg byO,mul_zero,add_zero]
theorem II{g:El f}{vp vq:Value}{p q:List (El f)}(hlo:lo<=H.length)(hg:Gn (OkC.ok (f:=f)) g)(hp:SlE H vp p)(hq:SlE H vq q)(hpo:PolyOK p)(hqo:PolyOK q)(hq0:0<q.length) :
  Ev cp lo 61 [fvf f,vp,vq] H (fun v H'=>Ext H H'/\∃vt vr R Q,v=.tuple #[vt,vr,.int .i64 0]/\SlE H' vr (trim R)/\DivR p q R Q (q.length-1)):=by
 have hp0:=hp;have hq0':=hq;obtain⟨ap,cpp,rfl⟩:=hp.len;obtain⟨aq,cqq,rfl⟩:=hq.len;have hpl:=hpo.len;have hql:=hqo.len;unfold fvf fv;refine stG rfl rfl ?_;unfold PZ;simp only[kB,aC];refine aD ?_;generalize hG:H++_=G at *;have g0:G.get H.length=some [.int .i64 (FD.ch f:Nat),.int .i64 (f.q:Nat),.int .i64 (f.poly:Nat)]:=by rw[<-hG];exact aH
 have g1:G.get (H.length+1)=some [.slice ap p.length cpp,.slice aq q.length cqq]:=by rw[<-hG,bO];rfl
 have hxG:Ext H G:=by rw[<-hG];exact Ext.app _ _
 clear hG;refine aV ?_;refine aA (Jg (hp0.mono hxG) (hq0'.mono hxG) hpo hqo g1) ?_;rintro v H1 ⟨hx1,rfl⟩;have g0:=hx1.get g0;have hx1:=hxG.trans hx1;have hl1:=hx1.1;(try simp only[aC]);refine ah ?_ ?_<;>intro h
 ·cases h
 clear h;(try simp only[aC]);refine ah ?_ ?_<;>intro h
 ·exfalso;have:=of_decide_eq_true h;omega
 clear h;(try simp only[aC]);refine aV ?_;refine aA (uJ (f:=f) byO hg) ?_;rintro v H2 ⟨hx2,be,bl,hbe,hbl,rfl,harith⟩;have hx2:=hx1.trans hx2;have hl2:=hx2.1;(try simp only[aC]);refine aV ?_;refine aA (IK byO hg harith (hp0.mono hx2) (hq0'.mono hx2) byO byO hq0 (hqo.last.resolve_left byO)) ?_;rintro v H3 ⟨hx3,vt,vr,R,Q,rfl,hs,hd⟩;refine aD ?_;refine az ?_;exact⟨hx2.trans hx3,vt,vr,R,Q,rfl,hs,hd⟩
end
end Go.Proofs.YtmnlgdpdgjbfgaaGreat
