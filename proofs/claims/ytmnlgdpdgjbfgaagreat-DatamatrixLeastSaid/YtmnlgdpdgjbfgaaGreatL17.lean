/- Lemmas. -/
import Derived.Test.YtmnlgdpdgjbfgaaGreatL10
import Derived.Test.YtmnlgdpdgjbfgaaGreatL15
import Derived.Test.YtmnlgdpdgjbfgaaGreatL16
set_option linter.all false
namespace Go.Proofs.YtmnlgdpdgjbfgaaGreat
open Go.Abs Go.RS
variable{H:Heap}{lo:Nat}{v:Value}
set_option maxRecDepth 20000
section
variable {f:FD}[OkC f]
namespace XHd
def xtr:=zzi @Int.cast_ofNat_Int (zzi @fv.eq_1 (zzi @fvf.eq_1 (zzi @fvC.eq_1 (zzi @cdC.eq_1 (zzi @kt (zzi @eg (zzi @gH @jN)))))))
end XHd
open XHd
end
open Go.Abs Go.RS
section
variable {f:FD}[OkC f]
namespace XHe
def xtr:=zzi @Int.cast_ofNat_Int (zzi @fv.eq_1 (zzi @fvf.eq_1 (zzi @fvC.eq_1 (zzi @cdC.eq_1 (zzi @kt (zzi @eg (zzi @gH (zzi @jN @ite_self.{1}))))))))
end XHe
open XHe
end
open Go.Abs Go.RS
section
variable {f:FD}[OkC f]
open XHe
end
section
variable {f:FD}[OkC f]
open XArR
set_option maxHeartbeats 1000000 in
theorem tW{g:El f}(hlo:lo<=H.length)(hg:Gn (OkC.ok (f:=f)) g):Ev cp lo 106 [fvf f] H (fun v H'=>Ext H H'/\∃be bl,H.length<=be/\H.length<=bl/\v=arV f be bl/\ArH H' g be bl):=by
 have h2:=qle (f:=f);have hinj:=vA (n9 hg) (jS hg);unfold fvf fv;refine stG rfl rfl ?_;unfold Iz;simp only[kB,aC];refine aL ?_;refine bY ?_;refine aB (nN (OkC.ok (f:=f)) hg) ?_;rintro v H1 ⟨hx1,rfl⟩;have g0:H1.get H.length=some _:=hx1.get bJ;have g1:H1.get (H.length+1)=some _:=hx1.get bJ;have hx1:=hx1.of_app;have hl1:=Heap.get_lt g1;have hq1:((f.q:Int)-1).toNat=f.q-1:=byO;refine aL ?_;generalize hM:H1.length=M at *;refine aa (fun i S H'=>Ext H H'/\M+2<H'.length/\H'.get H.length=some [.int .i64 (FD.ch f:Nat),.int .i64 (f.q:Nat),.int .i64 (f.poly:Nat)]/\H'.get (H.length+1)=some [.int .i64 0,.int .i64 0,.slice none 0 0,.slice none 0 0]/\H'.get (M+2)=some (arC f M (M+1)) /\
  ∃E L:List Int,H'.get M=some (ah E)/\H'.get (M+1)=some (ah L)/\E.length=f.q-1/\L.length=f.q/\(∀k,k<i->E.getD k 0=((pw g k).val:Nat))/\(∀k,k<i->L.getD (pw g k).val 0=(k:Nat))/\∃(z:Nat->Value),S=[z 0,.pointer (some ⟨H.length,0,none⟩),.pointer (some ⟨H.length+1,0,none⟩),.int .i64 (g.val:Nat),.pointer (some ⟨M+2,0,none⟩),.int .i64 ((pw g i).val:Nat),z 6,z 7,z 8,z 9,z 10,z 11,z 12,z 13,.int .i64 ((f.q-1:Nat):Int),.int .i64 (i:Nat),z 16,z 17,z 18,z 19,z 20,z 21]) (f.q-1) ?_ ?_ ?_ ?_
 ·refine⟨hx1.trans (Ext.app _ _),by simp;omega,by simp(disch:=try exact dO)only[evB,xtr,Nat.reduceAdd,Nat.reduceBEq, *],by simp(disch:=try exact dO)only[evB,xtr,Nat.reduceAdd,Nat.reduceBEq, *],?_,List.replicate (f.q-1) 0,List.replicate f.q 0,?_,?_,by simp,by simp,by omega,by omega,aJ rfl⟩
  ·rw[<-hM,bL];rfl
  ·rw[<-hM,aG]
  ·rw[<-hM,bL];rfl
 ·rintro i S H' hi ⟨hx,hl,f0,f1,f2,E,L,fE,fL,hE,hL,hEa,hLa,z,rfl⟩
  exact⟨_,bJ,by simp⟩
 ·rintro i S H2 hi ⟨hx,hl,f0,f1,f2,E,L,fE,fL,hE,hL,hEa,hLa,z,rfl⟩
  unfold arC at f2;have hxv:=(pw g i).lt;have hE2:E.length<=f.q-1/\f.q-1<=E.length:=byO;have hL2:L.length<=f.q/\f.q<=L.length:=byO;have hnat:((i:Nat):Int)<((f.q-1:Nat):Int):=byO;clear hE hL;refine aL ?_;refine zQ bJ bJ (.inr (by simp[aV])) ?_;(try simp only[aC]);refine bY ?_;have hEx:Ext H (List.set (List.set H2 M (some (ah (E.set i ↑(pw g i).val)))) (M+1) (some (ah (L.set (pw g i).val ↑i)))):=(hx.set byO).set byO;refine aB (Ca (f:=f) (OkC.ok (f:=f)) hxv g.lt) ?_;rintro v H3 ⟨hx3,rfl⟩;have hmul:eL f (pw g i).val g.val=(pw g (i+1)).val:=rfl;have f0:=hx3.get (i:=H.length) (by rw[aI byO,aI byO];exact f0);have f1:=hx3.get (i:=H.length+1) (by rw[aI byO,aI byO];exact f1);have f2:=hx3.get (i:=M+2) (by rw[aI byO,aI byO];exact f2);have fE:=hx3.get (i:=M) (by rw[aI byO,aF byO]);have fL:=hx3.get (i:=M+1) (by rw[aF (by simp;omega)]);have hl3:=Heap.get_lt f2;have hx3:=hEx.trans hx3;refine aL ?_;refine⟨hx3,hl3,f0,f1,f2,_,_,fE,fL,by simp;omega,by simp;omega,fun k hk=>?_,fun k hk=>?_,aJ ncM⟩
  ·by_cases e:k=i
   ·subst e;rw[fR byO]
   ·rw[gk (fun h=>e h.symm)];exact hEa k byO
  ·by_cases e:k=i
   ·subst e;rw[fR byO]
   ·rw[gk (fun h=>e (hinj k i byO hi (El.ext h.symm)))];exact hLa k byO
 ·rintro S H2 ⟨hx,hl,f0,f1,f2,E,L,fE,fL,hE,hL,hEa,hLa,z,rfl⟩
  unfold arC at f2;refine aL ?_;refine bU ?_;exact⟨hx.set byO,M,M+1,byO,byO,rfl,⟨E,by rw[aI byO];exact fE,hE,hEa⟩,⟨L,by rw[aI byO];exact fL,hL,hLa⟩⟩
theorem QW{be bl:Nat}(x y:El f):Ev cp lo 154 [arV f be bl,.int .i64 (x.val:Nat),.int .i64 (y.val:Nat)] H (fun v H'=>Ext H H'/\v=.int .i64 ((x-y).val:Nat)):=by
 have h2:=qle (f:=f);have hx:=x.lt;have hy:=y.lt;have hs:(x-y).val=uW f x.val y.val:=(zp (OkC.ok (f:=f)) x.lt y.lt).symm;have hc:=LP (OkC.ok (f:=f));rw[hs];clear hs;have e1:=oM (a:=x.val) (b:=y.val) byO byO;have e2:=Af h2.1 hx hy;unfold arV;refine stG rfl rfl ?_;unfold JV;simp only[kB,aC];refine aL ?_;refine bQ ?_ ?_<;>intro h
 ·have hp:f.poly≠0:=hc.1 (by simp at h;omega)
  clear h;refine aL ?_;refine bU ?_;refine⟨Ext.app _ _,?_⟩;unfold uW;rw[if_neg hp];rfl
 ·have hp:f.poly=0:=by
   apply Decidable.byContradiction;intro h0;have:=hc.2 h0;simp at h;omega
  clear h;refine aL ?_;refine bU ?_;refine⟨Ext.app _ _,?_⟩;unfold uW;rw[if_pos hp];rfl
theorem PA{be bl:Nat}{g:El f}(hg:Gn (OkC.ok (f:=f)) g)(ha:ArH H g be bl)(x y:El f):Ev cp lo 155 [arV f be bl,.int .i64 (x.val:Nat),.int .i64 (y.val:Nat)] H (fun v H'=>Ext H H'/\v=.int .i64 ((x*y).val:Nat)):=by
 have h2:=qle (f:=f);have hx:=x.lt;have hy:=y.lt;have hbl:=ha.lt;obtain⟨⟨E,gE,hE,hEa⟩,⟨L,gL,hL,hLa⟩⟩:=ha;unfold arV;refine stG rfl rfl ?_;unfold JW;simp only[kB,aC];refine aL ?_;refine bQ ?_ ?_<;>intro h
 ·have hz:x*y=0:=by
   have:x.val=0\/y.val=0:=by simp at h;omega
   rcases this with h1|h1
   ·rw[jB h1,zero_mul]
   ·rw[jB h1,mul_zero]
  clear h;refine aL ?_;refine bU ?_;exact⟨Ext.app _ _,by rw[hz];rfl⟩
 have hnz:¬ x.val=0/\¬ y.val=0:=by simp at h;omega
 clear h;obtain⟨i,hi,rfl⟩:=pow_sur (n9 hg) (jS hg) (x:=x) (fun e=>hnz.1 (by rw[e];rfl));obtain⟨j,hj,rfl⟩:=pow_sur (n9 hg) (jS hg) (x:=y) (fun e=>hnz.2 (by rw[e];rfl));have li:=hLa i hi;have lj:=hLa j hj;have hml:(i+j)%(f.q-1)<f.q-1:=Nat.mod_lt _ byO;have hev:=hEa _ hml;have hmod:((i:Int)+(j:Int)).tmod ((f.q:Int)-1)=(((i+j)%(f.q-1):Nat):Int):=by
  rw[Int.tmod_eq_emod_of_nonneg byO,show((i:Int)+j)=((i+j:Nat):Int) by omega,show((f.q:Int)-1)=((f.q-1:Nat):Int) by omega];rfl
 have hE2:E.length<=f.q-1/\f.q-1<=E.length:=byO;have hL2:L.length<=f.q/\f.q<=L.length:=byO;clear hE hL hEa hLa hnz;rw[<-Hj (jS hg) (i:=i) (j:=j)];refine aL ?_;refine bU ?_;exact⟨Ext.app _ _,rfl⟩
theorem RB{be bl:Nat}{g:El f}(hg:Gn (OkC.ok (f:=f)) g)(ha:ArH H g be bl)(x y:El f)(hy0:y≠0):Ev cp lo 153 [arV f be bl,.int .i64 (x.val:Nat),.int .i64 (y.val:Nat)] H (fun v H'=>Ext H H'/\v=.int .i64 ((x*inv y).val:Nat)):=by
 have h2:=qle (f:=f);have hx:=x.lt;have hy:=y.lt;have hbl:=ha.lt;obtain⟨⟨E,gE,hE,hEa⟩,⟨L,gL,hL,hLa⟩⟩:=ha;unfold arV;refine stG rfl rfl ?_;unfold JU;simp only[kB,aC];refine aL ?_;refine bQ ?_ ?_<;>intro h
 ·have hz:x*inv y=0:=by
   have:x.val=0:=by simp at h;omega
   rw[jB this,zero_mul]
  clear h;refine aL ?_;refine bU ?_;exact⟨Ext.app _ _,by rw[hz];rfl⟩
 have hnz:¬ x.val=0:=by simp at h;omega
 clear h;obtain⟨i,hi,rfl⟩:=pow_sur (n9 hg) (jS hg) (x:=x) (fun e=>hnz (by rw[e];rfl));obtain⟨j,hj,rfl⟩:=pow_sur (n9 hg) (jS hg) (x:=y) hy0;have li:=hLa i hi;have lj:=hLa j hj;have hml:(i+(f.q-1)-j)%(f.q-1)<f.q-1:=Nat.mod_lt _ byO;have hev:=hEa _ hml;have hmod:((i:Int)-(j:Int)+(f.q:Int)-1).tmod ((f.q:Int)-1)=(((i+(f.q-1)-j)%(f.q-1):Nat):Int):=by
  rw[Int.tmod_eq_emod_of_nonneg byO,show((i:Int)-j+f.q-1)=((i+(f.q-1)-j:Nat):Int) by omega,show((f.q:Int)-1)=((f.q-1:Nat):Int) by omega];rfl
 have hE2:E.length<=f.q-1/\f.q-1<=E.length:=byO;have hL2:L.length<=f.q/\f.q<=L.length:=byO;clear hE hL hEa hLa hnz;rw[<-LZ (jS hg) hi hj];refine aL ?_;refine bU ?_;exact⟨Ext.app _ _,rfl⟩
end
namespace XPa
def xtr:=zzi @Int.cast_ofNat_Int (zzi @fv.eq_1 (zzi @fvf.eq_1 (zzi @arC.eq_1 (zzi @kt (zzi @eg (zzi @gH (zzi @jN (zzi @ite_self.{1} (zzi @lA (zzi @kz @ky))))))))))
end XPa
open XPa
theorem oV{ch sz po:Int}{l:List Int}(hl:SlI H v l)(hll:l.length<=9223372036854775807):Ev cp lo 151 [fv ch sz po,v] H (fun v H'=>Ext H H'/\v=.bool (inF sz l)):=by
 have hl0:=hl;obtain⟨ad,c,rfl⟩:=hl.len;unfold fv;refine stG rfl rfl ?_;unfold JS;simp only[kB,aC];refine aL ?_;generalize hG:H++_=G at *;have g0:G.get H.length=some [.int .i64 ch,.int .i64 sz,.int .i64 po]:=by rw[<-hG];exact aG
 have hxG:Ext H G:=by rw[<-hG];exact Ext.app _ _
 clear hG;refine aa (fun i S H'=>G=H'/\inF sz (l.take i)=true/\∃(z:Nat->Value),S=[z 0,z 1,.pointer (some ⟨H.length,0,none⟩),.bool false,z 4,.slice ad l.length c,.int .i64 (l.length:Nat),.int .i64 (i:Nat)]) l.length ?_ ?_ ?_ ?_
 ·exact⟨rfl,rfl,aJ rfl⟩
 ·rintro i S H' hi ⟨rfl,-,z,rfl⟩
  exact⟨_,bJ,by simp⟩
 ·rintro i S H' hi ⟨rfl,hin,z,rfl⟩
  obtain⟨b,o,sp,cap,xs,e,gx,hat,hxl⟩:=hl0.els 0 byO;cases e;have gx:=hxG.get gx;have hati:=hat i hi;have hs:=ft (p:=fun x=>!(decide (x<0) || decide (sz<=x))) hi;clear hat;refine aL ?_;refine bQ ?_ ?_<;>intro h
  ·have hno:inF sz l=false:=by
    rw[Bool.eq_false_iff];intro hin2;have:=jF.1 hin2 (l.getD i 0) (by rw[au₀,bb₀ hi];exact List.getElem_mem hi);simp at h;simp at this;omega
   clear h hs;refine aL ?_;refine bU ?_;exact⟨hxG,by rw[hno];rfl⟩
  ·have hin2:inF sz (l.take (i+1))=true:=by
    unfold inF at hin ⊢;rw[hs,hin,h];rfl
   clear h hs;refine aL ?_;exact⟨by trivial,hin2,aJ ncM⟩
 ·rintro S H' ⟨rfl,hin,z,rfl⟩
  rw[List.take_of_length_le (Nat.le_refl _)]at hin;refine aL ?_;refine bU ?_;exact⟨hxG,by rw[hin];rfl⟩
theorem BL{ch sz po:Int}{l:List Int}(hl:SlI H v l)(hll:l.length<=9223372036854775807):Ev cp lo 102 [fv ch sz po,v] H (fun v H'=>Ext H H'/\v=.bool (inF sz l)):=by
 have hl0:=hl;obtain⟨ad,c,rfl⟩:=hl.len;unfold fv;refine stG rfl rfl ?_;unfold Iw;simp only[kB,aC];refine aL ?_;generalize hG:H++_=G at *;have g0:G.get H.length=some [.int .i64 ch,.int .i64 sz,.int .i64 po]:=by rw[<-hG];exact aG
 have hxG:Ext H G:=by rw[<-hG];exact Ext.app _ _
 clear hG;refine aa (fun i S H'=>G=H'/\inF sz (l.take i)=true/\∃(z:Nat->Value),S=[z 0,z 1,.pointer (some ⟨H.length,0,none⟩),.bool false,z 4,.slice ad l.length c,.int .i64 (l.length:Nat),.int .i64 (i:Nat)]) l.length ?_ ?_ ?_ ?_
 ·exact⟨rfl,rfl,aJ rfl⟩
 ·rintro i S H' hi ⟨rfl,-,z,rfl⟩
  exact⟨_,bJ,by simp⟩
 ·rintro i S H' hi ⟨rfl,hin,z,rfl⟩
  obtain⟨b,o,sp,cap,xs,e,gx,hat,hxl⟩:=hl0.els 0 byO;cases e;have gx:=hxG.get gx;have hati:=hat i hi;have hs:=ft (p:=fun x=>!(decide (x<0) || decide (sz<=x))) hi;clear hat;refine aL ?_;refine bQ ?_ ?_<;>intro h
  ·have hno:inF sz l=false:=by
    rw[Bool.eq_false_iff];intro hin2;have:=jF.1 hin2 (l.getD i 0) (by rw[au₀,bb₀ hi];exact List.getElem_mem hi);simp at h;simp at this;omega
   clear h hs;refine aL ?_;refine bU ?_;exact⟨hxG,by rw[hno];rfl⟩
  ·have hin2:inF sz (l.take (i+1))=true:=by
    unfold inF at hin ⊢;rw[hs,hin,h];rfl
   clear h hs;refine aL ?_;exact⟨by trivial,hin2,aJ ncM⟩
 ·rintro S H' ⟨rfl,hin,z,rfl⟩
  rw[List.take_of_length_le (Nat.le_refl _)]at hin;refine aL ?_;refine bU ?_;exact⟨hxG,by rw[hin];rfl⟩
section
variable {f:FD}[OkC f]
def fo(l:List (El f)):List Int:=l.map fun x=>(x.val:Int)
theorem qE{l:List (El f)}(h:SlE H v l):SlI H v (fo l):=by
 rcases h with ⟨rfl,rfl⟩|⟨b,o,sp,cap,xs,h1,h2,h3,h4,h5⟩
 ·exact .inl ⟨rfl,rfl⟩
 ·refine .inr ⟨b,o,sp,cap,xs,by rw[h1];simp[fo],h2,?_,by simpa[fo]using h4,by simpa[fo]using h5⟩
  simp only[fo,ay₀,List.map_map];exact h3
theorem jb(l:List (El f)):inF (f.q:Int) (fo l)=true:=by
 rw[jF];intro x hx;obtain⟨y,_,rfl⟩:=List.mem_map.1 hx;have:=y.lt;omega
theorem eZ(l:List (El f)):(fo l).length=l.length:=by simp[fo]
set_option maxHeartbeats 1000000 in
theorem Gb{be bl:Nat}{g:El f}{vp:Value}{p:List (El f)}(hlo:lo<=H.length)(hg:Gn (OkC.ok (f:=f)) g)(ha:ArH H g be bl)(hp:SlE H vp p)(hpl:p.length<=100000000)(r:El f) :
  Ev cp lo 152 [arV f be bl,vp,.int .i64 (r.val:Nat),.int .i64 0] H (fun v H'=>Ext H H'/\∃b,H.length<=b/\v=.slice (some ⟨b,0,none⟩) (p.length+1) (p.length+1)/\H'.get b=some (elL (tab (p.length+1) (cv (co p) (mon r))))):=by
 have hp0:=hp;obtain⟨ap,cp',rfl⟩:=hp.len;have hz0:((0:El f).val:Int)=0:=rfl;have hcast:((p.length:Int)+1)=((p.length+1:Nat):Int):=byO;unfold arV;refine stG rfl rfl ?_;unfold JT;simp only[kB,aC];refine aL ?_;generalize hG:H++_=G at *;have g0:G.get H.length=some (arC f be bl):=by rw[<-hG];exact aG
 have g1:G.get (H.length+1)=some (elL (tab (p.length+1) (fun _=>(0:El f)))):=by
  rw[<-hG,bL,<-jX];show some _=some _;congr 1;simp[elL,ah,sR,List.replicate_succ,Ak]
 have hxG:Ext H G:=by rw[<-hG];exact Ext.app _ _
 clear hG hcast;refine aa (fun i S H'=>Ext H H'/\H'.get H.length=some (arC f be bl)/\H'.get (H.length+1)=some (elL (tab (p.length+1) (fun k=>if k<i then cv (co p) (mon r) k else if k=i/\0<i then co p (i-1) else 0)))/\∃(z:Nat->Value),S=[z 0,z 1,.int .i64 (r.val:Nat),z 3,.pointer (some ⟨H.length,0,none⟩),.slice none 0 0,.slice (some ⟨H.length+1,0,none⟩) (p.length+1) (p.length+1),z 7,z 8,z 9,.slice ap p.length cp',.int .i64 (p.length:Nat),.int .i64 (i:Nat),z 13,z 14,z 15,z 16,z 17,z 18]) p.length ?_ ?_ ?_ ?_
 ·refine⟨hxG,g0,?_,aJ rfl⟩
  rw[g1];refine congrArg (fun t=>some (elL t)) ?_;refine cT fun k _=>?_;rw[if_neg byO,if_neg byO]
 ·rintro i S H' hi ⟨hx,f0,f1,z,rfl⟩
  exact⟨_,bJ,by simp⟩
 ·clear g0 g1 hxG
  rintro i S H1 hi ⟨hx1,f0,f1,z,rfl⟩;obtain⟨b,o,sp,cap,xs,e,gx,hat,hxl⟩:=nC hp0 byO;cases e;have gx:=hx1.get gx;have hati:=hat i hi;have hget:(tab (p.length+1) (fun k=>if k<i then cv (co p) (mon r) k else if k=i/\0<i then co p (i-1) else 0)).getD i 0-co p i*r=cv (co p) (mon r) i:=by
   rw[sE byO,if_neg byO];cases i with
   | zero=>rw[if_neg byO,wD];exact(show(0-(co p 0*r))=(-(co p 0*r)) from dV [(co p 0*r)] (.add .zero (.neg (.v 0))) (.neg (.v 0)) rfl)
   | succ i=>rw[if_pos ⟨rfl,byO⟩,yH];rfl
  have hset:((tab (p.length+1) (fun k=>if k<i then cv (co p) (mon r) k else if k=i/\0<i then co p (i-1) else 0)).set i (cv (co p) (mon r) i)).set (i+1) (co p i)=tab (p.length+1) (fun k=>if k<i+1 then cv (co p) (mon r) k else if k=i+1/\0<i+1 then co p (i+1-1) else 0):=by
   rw[lz,lz];refine cT fun k hk=>?_;by_cases e:k=i+1
   ·rw[if_pos e,if_neg byO,if_pos ⟨e,byO⟩,Nat.add_sub_cancel]
   ·rw[if_neg e]
    by_cases e2:k=i
    ·rw[if_pos e2,if_pos byO,e2]
    ·rw[if_neg e2]
     by_cases h2:k<i
     ·rw[if_pos h2,if_pos byO]
     ·rw[if_neg h2,if_neg byO,if_neg byO,if_neg byO]
  have hlen2:(tab (p.length+1) (fun k=>if k<i then cv (co p) (mon r) k else if k=i/\0<i then co p (i-1) else 0)).length<=p.length+1/\p.length+1<=(tab (p.length+1) (fun k=>if k<i then cv (co p) (mon r) k else if k=i/\0<i then co p (i-1) else 0)).length:=by rw[eC];omega
  generalize tab (p.length+1) (fun k=>if k<i then cv (co p) (mon r) k else if k=i/\0<i then co p (i-1) else 0)=T at *;have hi1:((i:Int)+1)=((i+1:Nat):Int):=byO;have hl1:=Heap.get_lt f1;clear hat;refine aL ?_;refine bY ?_;refine cU (PA hg (ha.mono hx1) (co p i) r) ?_;rintro v H2 ⟨hx2,rfl⟩;have f0:=(hx2).get f0;have f1:=(hx2).get f1;have hx2:=hx1.trans hx2;(try simp only[aC]);refine bY ?_;refine aB (QW (T.getD i 0) (co p i*r)) ?_;rintro v H3 ⟨hx3,rfl⟩;rw[hget];have f0:=(hx3).get f0;have f1:=(hx3).get f1;have hx3:=hx2.trans hx3;have hl3:=Heap.get_lt f1;clear hget;refine aL ?_;refine⟨(hx3.set (by omega)).set (by omega),by simp(disch:=try exact dO)only[evB,xtr,Nat.reduceAdd,Nat.reduceBEq, *],?_,aJ ncM⟩;rw[aF (by simp;omega)]
 ·rintro S H1 ⟨hx1,f0,f1,z,rfl⟩
  refine aL ?_;refine bU ?_;refine⟨hx1,H.length+1,byO,rfl,?_⟩;rw[f1];refine congrArg (fun t=>some (elL t)) ?_;refine cT fun k hk=>?_;by_cases h1:k<p.length
  ·rw[if_pos h1]
  ·have hk2:k=p.length:=byO
   rw[if_neg h1];subst hk2;cases hpl':p.length with
   | zero=>
    rw[if_neg byO,wD,kj byO,zero_mul,neg_zero]
   | succ n=>
    rw[if_pos ⟨rfl,byO⟩,yH,kj (l:=p) (i:=n+1) byO,zero_mul];show co p n=co p n-0;exact(show(co p n)=((co p n)-0) from dV [(co p n)] (.v 0) (.add (.v 0) (.neg .zero)) rfl)
end
end Go.Proofs.YtmnlgdpdgjbfgaaGreat
