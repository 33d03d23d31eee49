/- Lemmas. -/
import Derived.Test.YtmnlgdpdgjbfgaaGreatD10
import Derived.Test.YtmnlgdpdgjbfgaaGreatD24
set_option linter.all false
namespace Go.Proofs.YtmnlgdpdgjbfgaaGreat
open Go.Abs Go.RS
set_option maxRecDepth 20000
section
variable {f:FD}[OkC f]
open XRb
end
section
variable {f:FD}[OkC f]
def dcC(f:FD)(be bl r b n bw bE s:Nat)(vv vs vl vp:Value):List Value:=
 [.int .i64 (FD.ch f:Nat),.int .i64 (f.q:Nat),.slice (some ⟨be,0,none⟩) (f.q-1) (f.q-1),.slice (some ⟨bl,0,none⟩) f.q f.q,
  .int .i64 (FD.ch f:Nat),.int .i64 (f.q:Nat),.int .i64 (f.poly:Nat),.int .i64 r,.int .i64 b,
  .slice (some ⟨bw,0,some 1⟩) n n,.slice (some ⟨bE,0,none⟩) n n,.int .i64 s,vv,vs,vl,vp]
def erL(n:Nat)(er:Nat->Bool):List Value:=(List.range n).map fun i=>.bool (er i)
theorem te(n:Nat)(er:Nat->Bool):(erL n er).length=n:=by simp[erL]
theorem xU{n:Nat}{er:Nat->Bool}{i:Nat}(h:i<n):(erL n er)[i]?=some (.bool (er i)):=by simp[erL,h]
structure Dc (H:Heap)(g:El f)(d be bl r b bw bE s:Nat)(w:List (El f))(er:Nat->Bool)(vv vs vl vp:Value):Prop where
 box:H.get d=some (dcC f be bl r b w.length bw bE s vv vs vl vp)
 ar:ArH H g be bl
 word:H.get bw=some (elL w)
 eras:H.get bE=some (erL w.length er)
 h1:be<bw
 h2:bl<bw
 h3:bw<bE
 h4:bE<d
variable {lo:Nat}{H:Heap}{g:El f}{d be bl r b bw bE s:Nat}{w:List (El f)}{er:Nat->Bool}{vv vs vl vp:Value}
theorem Dc.mono{H':Heap}(h:Dc H g d be bl r b bw bE s w er vv vs vl vp)(e:Ext H H'):Dc H' g d be bl r b bw bE s w er vv vs vl vp:=
 ⟨e.get h.box,h.ar.mono e,e.get h.word,e.get h.eras,h.h1,h.h2,h.h3,h.h4⟩
theorem Dc.keep{H':Heap}{vv' vs' vl' vp':Value}(h:Dc H g d be bl r b bw bE s w er vv vs vl vp)(e:Keep d H H')(hb:H'.get d=some (dcC f be bl r b w.length bw bE s vv' vs' vl' vp')):Dc H' g d be bl r b bw bE s w er vv' vs' vl' vp':=by
 have h1:=h.h1;have h2:=h.h2;have h3:=h.h3;have h4:=h.h4;exact⟨hb,h.ar.keep e byO byO,e.get h.word byO,e.get h.eras byO,h1,h2,h3,h4⟩
theorem dD{H H':Heap}(h:Ext H H')(d:Nat)(x:Option (List Value)):Keep d H (H'.set d x):=⟨by simpa using h.1,fun i hi hne=>by rw[aH (Ne.symm hne)];exact h.2 i hi⟩
theorem dB{b:Nat}{A B C:Heap}(h:Keep b A B)(k:Keep b B C):Keep b A C:=⟨Nat.le_trans h.len k.len,fun i hi hne=>(k.eq i (bc₀ hi h.len) hne).trans (h.eq i hi hne)⟩
theorem dQ{b:Nat}{A B:Heap}(h:Ext A B):Keep b A B:=⟨h.1,fun i hi _=>h.2 i hi⟩
theorem Fz{d:Nat}{H L:Heap}{x:Option (List Value)}:Keep d H (H.set d x++L):=⟨by simp,fun i hi hne=>by rw[dN (by simpa using hi),aH (Ne.symm hne)]⟩
theorem DF{d:Nat}{H L:Heap}{c:List Value}(h:d<H.length):Heap.get (H.set d (some c)++L) d=some c:=by rw[dN (by simpa using h),aF h]
theorem DG{d:Nat}{H L:Heap}{x:Option (List Value)}{c:List Value}:Heap.get (H.set d x++(some c::L)) H.length=some c:=by
 have:=aK (H:=H.set d x) (c:=c) (L:=L);rwa [List.length_set]at this
namespace XSa
def xtr:=zzi @Int.cast_ofNat_Int (zzi @fv.eq_1 (zzi @fvf.eq_1 (zzi @ite_self.{1} (zzi @ic (zzi @iZ (zzi @iY (zzi @cdC.eq_1 (zzi @arC.eq_1 (zzi @dcC.eq_1 (zzi @iU (zzi @bq (zzi @eQ (zzi @fj (zzi @xU @te))))))))))))))
end XSa
open XSa
theorem uV(hd:Dc H g d be bl r b bw bE s w er vv vs vl vp)(hwl:w.length<=100000000)(i:Nat)(hi:i<w.length):Ev cp lo 165 [.pointer (some ⟨d,0,none⟩),.int .i64 i] H (fun v H'=>H'=H/\v=.int .i64 ((w.length-1-i:Nat):Int)):=by
 have g0:=hd.box;have hcast:((w.length-1-i:Nat):Int)=(w.length:Int)-1-i:=byO;rw[hcast];clear hcast hd;refine stG rfl rfl ?_;unfold Ib;simp only[kB,aB];refine aC ?_;refine aT ?_;exact⟨rfl,rfl⟩
set_option maxHeartbeats 1000000 in
theorem Db(hlo:lo<=d)(hg:Gn (OkC.ok (f:=f)) g)(hd:Dc H g d be bl r b bw bE s w er vv vs vl vp)(hwl:w.length<=100000000)(hr:r<=100000000)(hb:b<=100000000) :
  Ev cp lo 116 [.pointer (some ⟨d,0,none⟩)] H (fun v H'=>v=.bool (decide (s<=r))/\Keep d H H'/\∃vv',Dc H' g d be bl r b bw bE s w er vv' vs vl vp/\SlE H' vv' (ef g r b w)/\NewV H.length vv'):=by
 have g0:=hd.box;have hl:=Heap.get_lt g0;refine stG rfl rfl ?_;unfold Hw;simp only[kB,aB];refine aC ?_;refine aQ ?_;refine aA (rR byO hg hd.ar (bK (sp:=some 1) hd.word rfl) hwl r b hr hb) ?_;rintro v H1 ⟨hx1,bb,hbb,rfl,f1⟩;have hd1:=hd.mono hx1;have g0:=hd1.box;have hl1:=Heap.get_lt g0;refine aC ?_;refine aT ?_;have hk:Keep d H (H1.set d (some (dcC f be bl r b w.length bw bE s (.slice (some ⟨bb,0,none⟩) r r) vs vl vp))):=dD hx1 _ _;refine⟨by simp[aM],hk,_,hd.keep hk (aF byO),?_,NewV.mk hbb⟩;exact bK (by rw[aH byO];exact f1) (aG _ _)
theorem EJ(p:List (El f))(X:El f):mE p p 1 X=tab (p.length+1) (cv (lin X) (co p)):=by
 unfold mE;rw[show max p.length (p.length+1)=p.length+1 by omega];refine ah fun i hi=>?_;cases i with
 | zero=>rw[nD,ky _ byO];exact(show((co p 0)-((X)*0))=(co p 0) from bu [(co p 0),(X)] (.add (.v 0) (.neg (.mul (.v 1) .zero))) (.v 0) rfl)
 | succ i=>rw[mT,ja _ byO,Nat.add_sub_cancel]
theorem iK{n:Nat}{F:Ser (El f)}(h:∀i,n<=i->F i=0):co (tab n F)=F:=by
 funext i;rw[dL];split
 ·rfl
 ·exact(h i byO).symm
theorem pN(X:Nat->El f)(er:Nat->Bool)(n:Nat):∀i,sC er n+1<=i->gam X er n i=0:=by
 intro i hi;rw[tk];exact dt _ i (by unfold sC at hi;rw[ay₀];omega)
theorem jJ(er:Nat->Bool)(n:Nat):sC er (n+1)=sC er n+if er n=true then 1 else 0:=by
 unfold sC;rw[ba,as₀];cases er n<;>rfl
theorem ft(er:Nat->Bool):∀n,sC er n<=n
 | 0=>Nat.le_refl _
 | n+1=>by have:=ft er n;rw[jJ];split<;>omega
set_option maxHeartbeats 2000000 in
theorem K9(hlo:lo<=d)(hg:Gn (OkC.ok (f:=f)) g)(hd:Dc H g d be bl r b bw bE s w er vv vs vl vp)(hwl:w.length<=10000000) :
  Ev cp lo 117 [.pointer (some ⟨d,0,none⟩)] H (fun v H'=>v=.bool true/\Keep d H H'/\∃vs',Dc H' g d be bl r b bw bE s w er vv vs' vl vp/\SlE H' vs' (tab (sC er w.length+1) (gam (plc g w.length) er w.length))/\NewV H.length vs'):=by
 have g0:=hd.box;have hl:=Heap.get_lt g0;have k1:=hd.h1;have k2:=hd.h2;have k3:=hd.h3;have k4:=hd.h4;refine stG rfl rfl ?_;unfold Hy;simp only[kB,aB];refine aC ?_;generalize hG:List.set H d _++_=G at *;have hkG:Keep d H G:=by rw[<-hG];exact Fz
 have g1:Heap.get G d=some (dcC f be bl r b w.length bw bE s vv (.slice (some ⟨H.length,0,none⟩) 1 1) vl vp):=by rw[<-hG];exact DF hl
 have g2:Heap.get G H.length=some (elL (tab 1 (s1:Ser (El f)))):=by rw[<-hG,DG];rfl
 clear hG;refine aa (fun i S H'=>Keep d H H'/\∃bs,H.length<=bs/\Heap.get H' d=some (dcC f be bl r b w.length bw bE s vv (.slice (some ⟨bs,0,none⟩) (sC er i+1) (sC er i+1)) vl vp)/\Heap.get H' bs=some (elL (tab (sC er i+1) (gam (plc g w.length) er i)))/\∃(z:Nat->Value),S=[.pointer (some ⟨d,0,none⟩),.bool false,z 2,z 3,z 4,z 5,.slice (some ⟨bE,0,none⟩) w.length w.length,.int .i64 (w.length:Nat),.int .i64 (i:Nat),z 9,z 10,z 11,z 12,z 13,z 14,z 15,z 16]) w.length ?_ ?_ ?_ ?_
 ·exact⟨hkG,H.length,Nat.le_refl _,g1,g2,aR rfl⟩
 ·rintro i S H' hi ⟨hk,bs,hbs,f1,f2,z,rfl⟩
  exact⟨_,aW,by simp⟩
 ·clear g0 g1 g2 hkG
  rintro i S H1 hi ⟨hk,bs,hbs,f1,f2,z,rfl⟩;have hd1:=hd.keep hk f1;have ge:=hd1.eras;have hsl:=ft er i;have hss:=jJ er i;have hgs:gam (plc g w.length) er (i+1)=if er i=true then cv (lin (plc g w.length i)) (gam (plc g w.length) er i) else gam (plc g w.length) er i:=rfl
  refine aC ?_;refine aS ?_ ?_<;>intro h
  ·rw[h,if_pos rfl]at hss hgs
   rw[hss,hgs];clear h hss hgs;(try simp only[aB]);refine aQ ?_;refine aN (uV hd1 byO i hi) ?_;rintro v H2 ⟨rfl,rfl⟩;(try simp only[aB]);refine aQ ?_;refine aN (qu hg hd1.ar (w.length-1-i) byO) ?_;rintro v H2 ⟨hx2,rfl⟩;have hd2:=hd1.mono hx2;have f1:=(hx2).get f1;have f2:=(hx2).get f2;have hl1:=hk.len;have hl2:=hx2.1;have hle:=bK (sp:=none) f2 (aG _ _);(try simp only[aB]);refine aQ ?_;refine aA (zg (n:=1) byO hg hd2.ar hle hle (by rw[aG];omega) (by rw[aG];omega) byO (plc g w.length i)) ?_;rintro v H3 ⟨hx3,b3,hb3,rfl,f3⟩;have hxl:=hx3.1;rw[EJ,iK (pN _ _ _),aG]at f3 ⊢;rw[aG];have f1:=(hx3).get f1;clear hle;refine aC ?_;refine⟨dB hk (dD (hx2.trans hx3) _ _),b3,byO,aF byO,?_,aR ncM⟩;rw[aH byO];exact f3
  ·rw[h,if_neg (by simp)]at hss hgs
   rw[hss,hgs];clear h hss hgs;refine aC ?_;exact⟨hk,bs,hbs,f1,f2,aR ncM⟩
 ·rintro S H1 ⟨hk,bs,hbs,f1,f2,z,rfl⟩
  refine aC ?_;refine aT ?_;exact⟨rfl,hk,_,hd.keep hk f1,bK f2 (aG _ _),NewV.mk hbs⟩
theorem w6{b1 r s:Nat}{l:List (El f)}(h:H.get b1=some (elL l))(hl:l.length=r)(hs:s<=r):SlE H (.slice (some ⟨b1,if r=s then 0 else s,none⟩) (r-s) (r-s)) (l.drop s):=by
 have hlen:(l.drop s).length=r-s:=by rw[List.length_drop,hl]
 refine .inr ⟨b1,_,none,r-s,_,by rw[hlen],h,?_,?_,.inl rfl,byO⟩
 ·rw[hlen]
  split
  ·rename_i e
   rw[<-e,Nat.sub_self,List.take_zero,List.drop_of_length_le byO];rfl
  ·rw[List.take_of_length_le (by rw[List.length_drop,bq];omega)]
   unfold elL;rw[List.map_drop]
 ·rw[hlen,bq];split<;>omega
theorem DX(s:List (El f)):uF s=GC s:=rfl
set_option maxHeartbeats 1000000 in
theorem GF(hlo:lo<=d)(hg:Gn (OkC.ok (f:=f)) g)(hd:Dc H g d be bl r b bw bE (sC er w.length) w er vv vs vl vp)(hwl:w.length<=10000000)(hr:r<=10000000)(hsr:sC er w.length<=r)(hv:SlE H vv (ef g r b w))(hs:SlE H vs (tab (sC er w.length+1) (gam (plc g w.length) er w.length))) :
  Ev cp lo 118 [.pointer (some ⟨d,0,none⟩)] H (fun v H'=>v=.bool (decide (2*((cV (plc g w.length) er w.length r (syS g r b w)).length-1)+sC er w.length<=r))/\Keep d H H'/\∃vl',Dc H' g d be bl r b bw bE (sC er w.length) w er vv vs vl' vp/\SlE H' vl' (cV (plc g w.length) er w.length r (syS g r b w))/\NewV H.length vl'):=by
 have g0:=hd.box;have hl:=Heap.get_lt g0;have hsw:=ft er w.length;refine stG rfl rfl ?_;unfold Hz;simp only[kB,aB];refine aC ?_;refine aQ ?_;refine aA (qw byO hg hd.ar hv hs (by unfold ef;rw[aG];omega) (by rw[aG];omega) r byO) ?_;rintro v H1 ⟨hx1,b1,hb1,rfl,f1⟩;have hd1:=hd.mono hx1;have g0:=hd1.box;have hl1:=Heap.get_lt g0;rw[iK (pN _ _ _)]at f1;have hsub:((r:Int)-(sC er w.length:Nat))=((r-sC er w.length:Nat):Int):=byO;refine aC ?_;refine aQ ?_;have hlo1:lo<=H1.length:=byO;refine aA (DZ hlo1 hg hd1.ar (w6 f1 (aG _ _) hsr) (by rw[List.length_drop,aG];omega)) ?_;rintro v H2 ⟨hx2,hlam,hnew⟩;have hlam:SlE H2 v (cV (plc g w.length) er w.length r (syS g r b w)):=hlam;have hone:=uC (plc g w.length) er w.length r (syS g r b w);have hpos:1<=(cV (plc g w.length) er w.length r (syS g r b w)).length:=by
  apply Decidable.byContradiction;intro hc;rw[kW byO]at hone;exact ig hone.symm
 have hmax:(cV (plc g w.length) er w.length r (syS g r b w)).length<=20000000:=by
  refine Nat.le_trans (lH _) ?_;rw[aG];have:=(mR (co (hO (plc g w.length) er w.length r (syS g r b w))) (hO (plc g w.length) er w.length r (syS g r b w)).length).1;rw[iP]at this;rw[iP];omega
 clear hone;generalize cV (plc g w.length) er w.length r (syS g r b w)=lam at *;have hd2:=hd1.mono hx2;have g0:=hd2.box;have hl2:=Heap.get_lt g0;obtain⟨al,cl',rfl⟩:=hlam.len;clear hsub;refine aC ?_;refine aT ?_;have hk:Keep d H (H2.set d (some (dcC f be bl r b w.length bw bE (sC er w.length) vv vs (.slice al lam.length cl') vp))):=dD (hx1.trans hx2) _ _;have hk2:Keep d H2 (H2.set d (some (dcC f be bl r b w.length bw bE (sC er w.length) vv vs (.slice al lam.length cl') vp))):=dD (Ext.refl _) _ _;refine⟨?_,hk,_,hd.keep hk (aF byO),eE hlam hnew hk2 byO,hnew.mono hx1.1⟩;have e:((2*((lam.length:Int)-1)+(sC er w.length:Nat)<=(r:Int))↔(2*(lam.length-1)+sC er w.length<=r)):=byO;simp only[aM,e]
end
open Go.Abs Go.RS
section
variable {f:FD}[OkC f]{lo:Nat}{H:Heap}{g:El f}{d be bl r b bw bE s:Nat}{w:List (El f)}{er:Nat->Bool}{vv vs vl vp:Value}
def jA(l:List Nat):List Value:=l.map fun i=>.int .i64 (i:Nat)
theorem j4(l:List Nat):(jA l).length=l.length:=by simp[jA]
theorem rQ{g:El f}{r b:Nat}{w:List (El f)}:(∀k,k<r->co (ef g r b w) k=0)↔rY g r b w:=by
 constructor
 ·intro h k hk
  have:=h k hk;unfold ef at this;rwa [dL,if_pos hk]at this
 ·intro h k hk
  unfold ef;rw[dL,if_pos hk];exact h k hk
open XSa
set_option maxHeartbeats 1000000 in
theorem KY(hlo:lo<=H.length)(hg:Gn (OkC.ok (f:=f)) g)(hd:Dc H g d be bl r b bw bE s w er vv vs vl vp)(hwl:w.length<=10000000)(hr:r<=10000000)(hb:b<=10000000) :
  Ev cp lo 121 [.pointer (some ⟨d,0,none⟩)] H (fun v H'=>Ext H H'/\∃t,v=.bool t/\(t=true↔rY g r b w)):=by
 have g0:=hd.box;have hl:=Heap.get_lt g0;rw[<-rQ];refine stG rfl rfl ?_;unfold IC;simp only[kB,aB];refine aC ?_;refine aQ ?_;refine aA (rR hlo hg hd.ar (bK (sp:=some 1) hd.word rfl) byO r b byO byO) ?_;rintro v H1 ⟨hx1,bb,hbb,rfl,f1⟩;have hsl:(ef g r b w).length=r:=aG _ _;have hsl':r<=(ef g r b w).length/\(ef g r b w).length<=r:=byO;clear hsl;generalize ef g r b w=sy at *;refine aC ?_;refine aa (fun i S H'=>H1=H'/\(∀k,k<i->co sy k=0)/\∃(z:Nat->Value),S=[.pointer (some ⟨d,0,none⟩),.bool false,z 2,.slice (some ⟨bb,0,none⟩) r r,.int .i64 (r:Nat),.int .i64 (i:Nat)]) r ?_ ?_ ?_ ?_
 ·exact⟨rfl,byO,aR rfl⟩
 ·rintro i S H' hi ⟨rfl,-,z,rfl⟩
  exact⟨_,aW,by simp⟩
 ·rintro i S H' hi ⟨rfl,hall,z,rfl⟩
  refine aC ?_;refine aS ?_ ?_<;>intro h
  ·have hne:¬ ∀k,k<r->co sy k=0:=by
    intro hz;have:=hz i hi;unfold co at this;rw[this,lJ]at h;simp at h
   clear h;refine aC ?_;refine aT ?_;exact⟨hx1,false,rfl,by simp[hne]⟩
  ·have hz:co sy i=0:=by
    apply Decidable.byContradiction;intro hc;have:=fT hc;unfold co at this;simp at h this;omega
   clear h;refine aC ?_;refine⟨by trivial,fun k hk=>?_,aR ncM⟩;by_cases e:k=i
   ·rw[e];exact hz
   ·exact hall k byO
 ·rintro S H' ⟨rfl,hall,z,rfl⟩
  refine aC ?_;refine aT ?_;exact⟨hx1,true,rfl,by simp;exact hall⟩
theorem vz{d bp:Nat}{H A B:Heap}(h:Keep d H A)(k:Keep bp A B)(hb:H.length<=bp):Keep d H B:=⟨Nat.le_trans h.len k.len,fun i hi hne=>(k.eq i (bc₀ hi h.len) byO).trans (h.eq i hi hne)⟩
theorem iN{d:Nat}{H A:Heap}(h:Keep d H A)(x:Option (List Value)):Keep d H (A.set d x):=dB h (dD (Ext.refl _) d x)
theorem wZ(hg:Gn (OkC.ok (f:=f)) g){n i:Nat}(hn:n<=f.q-1)(hi:i<n):pw g (f.q-1-(n-1-i))=inv (plc g n i):=by
 unfold plc;exact(DS (dv hg).2.1 byO).symm
set_option maxHeartbeats 4000000 in
theorem HP(hlo:lo<=d)(hg:Gn (OkC.ok (f:=f)) g){lam:List (El f)}(hd:Dc H g d be bl r b bw bE s w er vv vs vl (.slice none 0 0))(hwl:w.length<=f.q-1)(hlam:SlE H vl lam)(hnew:NewV (d+1) vl)(hll:lam.length<=20000000)(hl1:1<=lam.length) :
  Ev cp lo 119 [.pointer (some ⟨d,0,none⟩)] H (fun v H'=>v=.bool (decide ((sel (isR (plc g w.length) er lam) w.length).length=lam.length-1))/\Keep d H H'/\∃vp' bp,Dc H' g d be bl r b bw bE s w er vv vs vl vp'/\H.length<=bp/\Own lo 1 H' vp' bp (jA (sel (cK (plc g w.length) er lam) w.length))):=by
 have g0:=hd.box;have hl:=Heap.get_lt g0;have hq:=qle (f:=f);have k1:=hd.h1;have k2:=hd.h2;have k3:=hd.h3;have k4:=hd.h4;obtain⟨al,cl',rfl⟩:=hlam.len;refine stG rfl rfl ?_;unfold IA;simp only[kB,aB];refine aC ?_;refine aa (fun i S H'=>Keep d H H'/\∃vp' bp,H.length<=bp/\Heap.get H' d=some (dcC f be bl r b w.length bw bE s vv vs (.slice al lam.length cl') vp')/\Own lo 1 H' vp' bp (jA (sel (cK (plc g w.length) er lam) i))/\∃(z:Nat->Value),S=[.pointer (some ⟨d,0,none⟩),.bool false,.int .i64 ((sel (isR (plc g w.length) er lam) i).length:Nat),z 3,z 4,z 5,.slice (some ⟨bE,0,none⟩) w.length w.length,.int .i64 (w.length:Nat),.int .i64 (i:Nat),z 9,z 10,z 11,z 12,z 13,z 14,z 15,z 16,z 17,z 18,z 19,z 20,z 21,z 22]) w.length ?_ ?_ ?_ ?_
 ·exact⟨dQ (Ext.refl _),_,H.length,Nat.le_refl _,g0,Own.nil byO,aR rfl⟩
 ·rintro i S H' hi ⟨hk,vp',bp,hbp,f1,hown,z,rfl⟩
  exact⟨_,aW,by simp⟩
 ·clear g0
  rintro i S H1 hi ⟨hk,vp',bp,hbp,f1,hown,z,rfl⟩;have hd1:=hd.keep hk f1;have ge:=hd1.eras;have hlam1:=eE hlam hnew hk byO;have hs1:=ba (isR (plc g w.length) er lam) i;have hs2:=ba (cK (plc g w.length) er lam) i;have hs3:(sel (isR (plc g w.length) er lam) i).length<=i:=ft _ i;have hs4:(sel (cK (plc g w.length) er lam) i).length<=i:=ft _ i;have hl1:=hk.len;refine aC ?_;refine aQ ?_;refine aN (uV hd1 byO i hi) ?_;rintro v H2 ⟨rfl,rfl⟩;have hsub:((f.q:Int)-1-((w.length-1-i:Nat):Int))=((f.q-1-(w.length-1-i):Nat):Int):=byO;(try simp only[aB]);refine aQ ?_;refine aA (qu hg hd1.ar (f.q-1-(w.length-1-i)) byO) ?_;rintro v H3 ⟨hx3,rfl⟩;rw[wZ hg hwl hi];have hd3:=hd1.mono hx3;have hlam3:=hlam1.mono hx3;have hown:=hown.mono hx3;have f1:=(hx3).get f1;have ge:=(hx3).get ge;have hl3:=hx3.1;clear hsub;refine aC ?_;cases he:er i with
  | true=>
   have hb:cK (plc g w.length) er lam i=true:=by unfold cK;rw[he];rfl
   have hi0:isR (plc g w.length) er lam i=false:=by unfold isR;rw[he];rfl
   rw[hb,if_pos rfl]at hs2;rw[hi0,if_neg (by simp),List.append_nil]at hs1;rw[hs1];have hsl:jA (sel (cK (plc g w.length) er lam) (i+1))=jA (sel (cK (plc g w.length) er lam) i)++[.int .i64 (i:Nat)]:=by rw[hs2];simp[jA]
   clear hb hi0 hs1 hs2;refine bP (t:=false) aW gZ nh (fun h=>by cases h) (fun _=>?_);(try simp only[aB]);refine aS ?_ ?_<;>intro h
   ·cases h
   clear h;(try simp only[aB]);refine aS ?_ ?_<;>intro h
   case refine_2=>cases h
   clear h;refine aC ?_;refine aQ ?_;refine dG (c:=[.int .i64 (i:Nat)]) (hown.mono (Ext.app _ _)) (by simp;omega) byO byO (by rw[j4];omega) aK (by simp) rfl rfl ?_;rintro v' H4 hown4 hk4 hl4;have hE:=Ext.app H3 [some [Value.int .i64 (i:Nat)]];have f1:=hk4.get (hE.get f1) byO;simp only[as₀,ak₀,an₀]at hown4;have hk5:=vz (dB hk (dQ (hx3.trans hE))) hk4 hbp;have hl4:d<H4.length:=Heap.get_lt f1;obtain⟨a4,n4,rfl,-,-⟩:=hown4.len byO;refine aC ?_;refine⟨iN hk5 _,_,H3.length+(0+1),byO,aF hl4,?_,aR ncM⟩;rw[hsl];exact hown4.keep (dD (Ext.refl _) _ _) byO
  | false=>
   refine bP (t:=true) aW gZ nh (fun _=>⟨_,aW,?_⟩) (fun h=>by cases h);refine aA (yV byO hg hd3.ar hlam3 byO (inv (plc g w.length i))) ?_;rintro v H5 ⟨hx5,rfl⟩;have hown:=hown.mono hx5;have f1:=(hx5).get f1;have hl5:=hx5.1;have hx5:=hx3.trans hx5;by_cases hz:hor lam (inv (plc g w.length i))=0
   ·have hb:cK (plc g w.length) er lam i=true:=by unfold cK isR;rw[he,decide_eq_true hz];rfl
    have hi0:isR (plc g w.length) er lam i=true:=by unfold isR;rw[he,decide_eq_true hz];rfl
    rw[hb,if_pos rfl]at hs2;rw[hi0,if_pos rfl]at hs1;have hsl:jA (sel (cK (plc g w.length) er lam) (i+1))=jA (sel (cK (plc g w.length) er lam) i)++[.int .i64 (i:Nat)]:=by rw[hs2];simp[jA]
    have hlen:(sel (isR (plc g w.length) er lam) (i+1)).length=(sel (isR (plc g w.length) er lam) i).length+1:=by rw[hs1];simp
    rw[hz,lJ,hlen];clear hb hi0 hs1 hs2 hlen;(try simp only[aB]);refine aS ?_ ?_<;>intro h
    case refine_2=>simp at h
    clear h;refine aC ?_;refine aQ ?_;refine dG (c:=[.int .i64 (i:Nat)]) (hown.mono (Ext.app _ _)) (by simp;omega) byO byO (by rw[j4];omega) aK (by simp) rfl rfl ?_;rintro v' H4 hown4 hk4 hl4;have hE:=Ext.app H5 [some [Value.int .i64 (i:Nat)]];have f1:=hk4.get (hE.get f1) byO;simp only[as₀,ak₀,an₀]at hown4;have hk5:=vz (dB hk (dQ (hx5.trans hE))) hk4 hbp;have hl4:d<H4.length:=Heap.get_lt f1;obtain⟨a4,n4,rfl,-,-⟩:=hown4.len byO;refine aC ?_;refine⟨iN hk5 _,_,H5.length+(0+1),byO,aF hl4,?_,aR ncM⟩;rw[hsl];exact hown4.keep (dD (Ext.refl _) _ _) byO
   ·have hb:cK (plc g w.length) er lam i=false:=by unfold cK isR;rw[he,decide_eq_false hz];rfl
    have hi0:isR (plc g w.length) er lam i=false:=by unfold isR;rw[he,decide_eq_false hz];rfl
    have hnz:=fT hz;rw[hb,if_neg (by simp),List.append_nil]at hs2;rw[hi0,if_neg (by simp),List.append_nil]at hs1;rw[hs1,hs2];clear hb hi0 hs1 hs2;(try simp only[aB]);refine aS ?_ ?_<;>intro h
    ·simp at h;omega
    clear h;(try simp only[aB]);refine aS ?_ ?_<;>intro h
    ·cases h
    clear h;refine aC ?_;exact⟨dB hk (dQ hx5),vp',bp,hbp,f1,hown,aR ncM⟩
 ·rintro S H1 ⟨hk,vp',bp,hbp,f1,hown,z,rfl⟩
  have hs3:(sel (isR (plc g w.length) er lam) w.length).length<=w.length:=ft _ _;refine aC ?_;refine aT ?_;refine⟨?_,hk,vp',bp,hd.keep hk f1,hbp,hown⟩;have e:(((sel (isR (plc g w.length) er lam) w.length).length:Int)=(lam.length:Int)-1)↔((sel (isR (plc g w.length) er lam) w.length).length=lam.length-1):=byO;simp only[aM,e]
end
section
variable {f:FD}[OkC f]{lo:Nat}{H:Heap}{g:El f}{d be bl r b bw bE s:Nat}{w:List (El f)}{er:Nat->Bool}{vv vs vl vp:Value}
def qG(i:Nat):Value:=.int .i64 (i:Nat)
theorem Dc.word'{H':Heap}{w':List (El f)}(h:Dc H g d be bl r b bw bE s w er vv vs vl vp)(e:Keep bw H H')(hl:w'.length=w.length)(hw:H'.get bw=some (elL w')):Dc H' g d be bl r b bw bE s w' er vv vs vl vp:=by
 have h1:=h.h1;have h2:=h.h2;have h3:=h.h3;have h4:=h.h4;exact⟨by rw[hl];exact e.get h.box byO,h.ar.keep e byO byO,hw,by rw[hl];exact e.get h.eras byO,h1,h2,h3,h4⟩
noncomputable def eh(w:List (El f))(P:List Nat)(E:Nat->El f)(j:Nat):List (El f):=tab w.length (fun i=>if i ∈ P.take j then co w i-E i else co w i)
theorem l4(w:List (El f))(P:List Nat)(E:Nat->El f)(j:Nat):(eh w P E j).length=w.length:=aG _ _
theorem qq(w:List (El f))(P:List Nat)(E:Nat->El f):eh w P E 0=w:=by
 unfold eh;simp[Ei]
theorem eG{P:List Nat}{j:Nat}(hj:j<P.length)(i:Nat):i ∈ P.take (j+1)↔i ∈ P.take j\/i=P.getD j 0:=by
 rw[List.take_add_one,List.mem_append,bb₀ hj,au₀,bb₀ hj];simp
theorem uM{P:List Nat}(hP:P.Nodup){j:Nat}(hj:j<P.length):P.getD j 0 ∉ P.take j:=by
 rw[au₀,bb₀ hj];intro h;obtain⟨k,hk,e⟩:=List.getElem_of_mem h;rw[List.length_take]at hk;rw[List.getElem_take]at e;exact List.pairwise_iff_getElem.1 (List.nodup_iff_pairwise_ne.1 hP) k j byO hj byO e
theorem Du{w:List (El f)}{P:List Nat}{E:Nat->El f}{j:Nat}(hP:P.Nodup)(hb:∀i ∈ P,i<w.length)(hj:j<P.length):(eh w P E j).getD (P.getD j 0) 0=co w (P.getD j 0):=by
 have hm:P.getD j 0 ∈ P:=by rw[au₀,bb₀ hj];exact List.getElem_mem hj
 unfold eh;rw[eW (hb _ hm),if_neg (uM hP hj)]
theorem sq{w:List (El f)}{P:List Nat}{E:Nat->El f}{j:Nat}(hj:j<P.length):(eh w P E j).set (P.getD j 0) (co w (P.getD j 0)-E (P.getD j 0))=eh w P E (j+1):=by
 unfold eh;rw[kF];refine ah fun i _=>?_;by_cases e:i=P.getD j 0
 ·rw[if_pos e,if_pos ((eG hj i).2 (.inr e)),e]
 ·rw[if_neg e]
  by_cases h:i ∈ P.take j
  ·rw[if_pos h,if_pos ((eG hj i).2 (.inl h))]
  ·rw[if_neg h,if_neg (fun h2=>((eG hj i).1 h2).elim h e)]
theorem Cc(N:Nat)(F:Ser (El f))(hF:∀i,N<=i->F i=0):K4 (tab N F)=tab (N-1) (der F):=by
 unfold K4;rw[aG,iK hF];rfl
open XSa
set_option maxHeartbeats 4000000 in
theorem CW(hlo:lo<=bw)(hg:Gn (OkC.ok (f:=f)) g){P:List Nat}{lam:List (El f)}{Γ S:Ser (El f)}(hd:Dc H g d be bl r b bw bE s w er vv vs vl vp)(hwl:w.length<=f.q-1)(hr:r<=10000000)(hbb:b<=10000000)
  (hv:SlE H vv (tab r S)) (hs:SlE H vs (tab (s+1) Γ)) (hs0:s<=100000) (hΓ:∀i,s+1<=i->Γ i=0) (hlam:SlE H vl lam) (hl1:1<=lam.length) (hl2:lam.length<=20000000) (hp:Sl qG H vp P) (hpn:NewV (d+1) vp)
  (hP:P.Nodup) (hPb:∀i ∈ P,i<w.length) (hboth:cv Γ (co lam)=aX (P.map (plc g w.length))) (hPl:P.length=s+(lam.length-1)) :
  Ev cp lo 120 [.pointer (some ⟨d,0,none⟩)] H (fun v H'=>v=.bool true/\Keep bw H H'/\Dc H' g d be bl r b bw bE s (eh w P (pG (plc g w.length) b r S P) P.length) er vv vs vl vp):=by
 have hPl':P.length<=s+(lam.length-1)/\s+(lam.length-1)<=P.length:=byO;clear hPl;have g0:=hd.box;have hl:=Heap.get_lt g0;have hq:=qle (f:=f);have k1:=hd.h1;have k2:=hd.h2;have k3:=hd.h3;have k4:=hd.h4;have hlins:=dt (P.map (plc g w.length));rw[ay₀]at hlins;obtain⟨as',cs',rfl⟩:=hs.len;obtain⟨al,cl',rfl⟩:=hlam.len;obtain⟨ap,cp',rfl⟩:=hp.len;have hN:((tab (s+1) Γ).length:Int)+(lam.length:Int)-1=((P.length+1:Nat):Int):=by rw[aG];omega
 have htl:(tab (s+1) Γ).length=s+1:=aG _ _;have htl':(tab (s+1) Γ).length<=s+1/\s+1<=(tab (s+1) Γ).length:=byO;clear htl;refine stG rfl rfl ?_;unfold IB;simp only[kB,aB];refine aC ?_;refine aQ ?_;refine aA (qw byO hg hd.ar hs hlam byO byO (P.length+1) byO) ?_;rintro v H1 ⟨hx1,b1,hb1,rfl,f1⟩;rw[iK hΓ,hboth]at f1;have hd1:=hd.mono hx1;have g0:=hd1.box;have hl1':=hx1.1;clear hN;refine aC ?_;refine aQ ?_;refine aA (qw byO hg hd1.ar (hv.mono hx1) (bK (sp:=none) f1 (aG _ _)) (by rw[aG];omega) (by rw[aG];omega) r byO) ?_;rintro v H2 ⟨hx2,b2,hb2,rfl,f2⟩;rw[iK (F:=aX (P.map (plc g w.length))) (fun i hi=>hlins i byO)]at f2;have hd2:=hd1.mono hx2;have g0:=hd2.box;have hl2':=hx2.1;have f1:=hx2.get f1;rw[ah (G:=cv S (aX (P.map (plc g w.length)))) (fun k hk=>kY (fun i hi=>by rw[dL,if_pos byO]) (fun _ _=>rfl))]at f2;refine aC ?_;refine aQ ?_;refine aA (vT byO hg hd2.ar (bK (sp:=none) f1 (aG _ _)) (by rw[aG];omega) (by rw[aG];omega)) ?_;rintro vd H3 ⟨hx3,hsl,hnd⟩;rw[Cc _ _ (fun i hi=>hlins i byO),Nat.add_sub_cancel]at hsl;have hd3:=hd2.mono hx3;have g0:=hd3.box;have hl3':=hx3.1;have f2:=hx3.get f2;have hev:=bK (sp:=none) f2 (aG _ _);have hx3:=(hx1.trans hx2).trans hx3;have hp3:=hp.mono hx3;have hDs:1<=P.length->∀x,hor (tab P.length (der (aX (List.map (plc g w.length) P)))) x=pv (der (aX (List.map (plc g w.length) P))) (P.length-1) x:=fun h x=>xg _ _ h;have hDl:(tab P.length (der (aX (List.map (plc g w.length) P)))).length<=100000000:=by rw[aG];omega
 generalize tab P.length (der (aX (List.map (plc g w.length) P)))=Ds at *;obtain⟨ad,cd',rfl⟩:=hsl.len;have hnd:=hnd.mono (show d+1<=H2.length by omega);have hcor:=fun i hi=>Q4 (b:=b) (r:=r) (S:=S) (kN hg) (dv hg) hwl hP hPb (i:=i) hi;generalize aX (P.map (plc g w.length))=LP at *;generalize hE:pG (plc g w.length) b r S P=E at *;clear f1 f2 hboth hE;have hEl:(tab r (cv S LP)).length=r:=aG _ _;generalize tab r (cv S LP)=Ev' at *;have hEl':Ev'.length<=r/\r<=Ev'.length:=byO;clear hEl;refine aC ?_;refine aa (fun j S H'=>Keep bw H3 H'/\Heap.get H' bw=some (elL (eh w P E j))/\∃(z:Nat->Value),S=[.pointer (some ⟨d,0,none⟩),.bool false,z 2,.slice (some ⟨b2,0,none⟩) r r,.slice ad Ds.length cd',z 5,z 6,z 7,z 8,z 9,z 10,z 11,.slice ap P.length cp',.int .i64 (P.length:Nat),.int .i64 (j:Nat),z 15,z 16,z 17,z 18,z 19,z 20,z 21,z 22,z 23,z 24,z 25,z 26,z 27,z 28,z 29,z 30,z 31,z 32,z 33,z 34,z 35]) P.length ?_ ?_ ?_ ?_
 ·exact⟨dQ (Ext.refl _),by rw[qq];exact hd3.word,aR rfl⟩
 ·rintro j S' H' hj ⟨hk,f1,z,rfl⟩
  exact⟨_,aW,by simp⟩
 ·clear g0
  rintro j S' H4 hj ⟨hk,f1,z,rfl⟩;have hd4:=hd3.word' hk (l4 w P E j) f1;have hp4:=eE hp3 hpn hk byO;have hsl4:=eE hsl hnd hk byO;have hev4:=eE hev (NewV.mk (show d+1<=b2 by omega)) hk byO;have g0:=hd4.box;have hl4:=hk.len;obtain⟨xb,xo,xsp,xc,xs,e,gx,hat,hxl⟩:=hp4.els 0 byO;cases e;have hati:=hat j hj;have hm:P.getD j 0 ∈ P:=by rw[au₀,bb₀ hj];exact List.getElem_mem hj
  have hlt:=hPb _ hm;have hwa:=Du (w:=w) (E:=E) hP hPb hj;have hws:=sq (w:=w) (E:=E) hj;obtain⟨hc1,hc2⟩:=hcor _ hm;have hD:=hDs byO (inv (plc g w.length (P.getD j 0)));have hwl2:=l4 w P E j;have hwl3:(eh w P E j).length<=w.length/\w.length<=(eh w P E j).length:=byO;clear hat hwl2;generalize P.getD j 0=i at *;generalize eh w P E j=wj at *;unfold qG at hati;rw[<-hD]at hc1 hc2;clear hD hcor hDs;have hmul:((w.length-1-i:Nat):Int)*((b:Int)+(f.q:Nat)-2)=(((w.length-1-i)*(b+(f.q-1-1)):Nat):Int):=by
   rw[Int.natCast_mul];congr 1;omega
  have hM:(w.length-1-i)*(b+(f.q-1-1))<=1000000000000:=Nat.le_trans (Nat.mul_le_mul (show w.length-1-i<=4096 by omega) (show b+(f.q-1-1)<=20000000 by omega)) byO;have hk2:w.length-1-i<=4096:=byO;have hri:=wZ hg hwl hlt;have hsub:((f.q:Int)-1-((w.length-1-i:Nat):Int))=((f.q-1-(w.length-1-i):Nat):Int):=byO;have hri2:f.q-1-(w.length-1-i)<=1000000000000:=byO;have hwj:wj.length-1-i=w.length-1-i:=byO;generalize (w.length-1-i)*(b+(f.q-1-1))=M at *;generalize f.q-1-(w.length-1-i)=R at *;generalize plc g w.length i=X at *;generalize w.length-1-i=k at *;refine aC ?_;refine aQ ?_;refine aN (uV hd4 byO i byO) ?_;rintro v H5 ⟨rfl,rfl⟩;rw[hwj];(try simp only[aB]);refine aQ ?_;refine aA (qu hg hd4.ar R hri2) ?_;rintro v H5 ⟨hx5,rfl⟩;rw[hri];have hd5:=hd4.mono hx5;have f1:=(hx5).get f1;have gx:=(hx5).get gx;have g0:=(hx5).get g0;have hsl5:=hsl4.mono hx5;have hev5:=hev4.mono hx5;refine aC ?_;refine aQ ?_;refine aN (uV hd5 byO i byO) ?_;rintro v H6 ⟨rfl,rfl⟩;rw[hwj];(try simp only[aB]);refine aQ ?_;refine aA (qu hg hd5.ar M hM) ?_;rintro v H6 ⟨hx6,rfl⟩;have hd6:=hd5.mono hx6;have f1:=(hx6).get f1;have gx:=(hx6).get gx;have g0:=(hx6).get g0;have hsl6:=hsl5.mono hx6;have hev6:=hev5.mono hx6;have hl6:=hx5.1;have hl6':=hx6.1;clear hsub hmul hwj;refine aC ?_;refine aQ ?_;refine aN (yV byO hg hd6.ar hsl6 byO (inv X)) ?_;rintro v H7 ⟨hx7,rfl⟩;have hd7:=hd6.mono hx7;have f1:=(hx7).get f1;have gx:=(hx7).get gx;have g0:=(hx7).get g0;have hev7:=hev6.mono hx7;have hl7':=hx7.1;(try simp only[aB]);refine aQ ?_;refine aA (mulR hg hd7.ar (pw g M) (hor Ds (inv X))) ?_;rintro v H8 ⟨hx8,rfl⟩;have hd8:=hd7.mono hx8;have f1:=(hx8).get f1;have gx:=(hx8).get gx;have g0:=(hx8).get g0;have hev8:=hev7.mono hx8;have hl8':=hx8.1;have hcn:=fT hc1;refine aC ?_;refine aS ?_ ?_<;>intro h
  ·exfalso;simp at h;omega
  clear h;(try simp only[aB]);refine aQ ?_;refine aN (yV byO hg hd8.ar hev8 byO (inv X)) ?_;rintro v H9 ⟨hx9,rfl⟩;have hd9:=hd8.mono hx9;have f1:=(hx9).get f1;have gx:=(hx9).get gx;have g0:=(hx9).get g0;have hl9':=hx9.1;(try simp only[aB]);refine aQ ?_;refine aN (Ns hg hd9.ar (hor Ev' (inv X)) (pw g M*hor Ds (inv X)) hc1) ?_;rintro v H10 ⟨hx10,rfl⟩;rw[hc2];have hd10:=hd9.mono hx10;have f1:=(hx10).get f1;have gx:=(hx10).get gx;have g0:=(hx10).get g0;have hl10':=hx10.1;(try simp only[aB]);refine aQ ?_;refine aN (Bg (co w i) (-E i)) ?_;rintro v H11 ⟨hx11,rfl⟩;have hd11:=hd10.mono hx11;have f1:=(hx11).get f1;have gx:=(hx11).get gx;have g0:=(hx11).get g0;have hl11':=hx11.1;have hws2:wj.set i (co w i+-E i)=eh w P E (j+1):=hws;have hlb:=Heap.get_lt f1;clear hws;refine aC ?_;have hxx:=((((((hx5.trans hx6).trans hx7).trans hx8).trans hx9).trans hx10).trans hx11);refine⟨dB hk (dD hxx _ _),?_,aR ncM⟩;rw[aF hlb]
 ·rintro S' H4 ⟨hk,f1,z,rfl⟩
  refine aC ?_;refine aT ?_;exact⟨rfl,dB (dQ hx3) hk,hd3.word' hk (l4 _ _ _ _) f1⟩
end
end Go.Proofs.YtmnlgdpdgjbfgaaGreat
