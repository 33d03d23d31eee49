/- Lemmas. -/
import Derived.Test.YtmnlgdpdgjbfgaaGreatW10
import Derived.Test.YtmnlgdpdgjbfgaaGreatW19
set_option linter.all false
namespace Go.Proofs.YtmnlgdpdgjbfgaaGreat
open Go.Abs Go.RS
set_option maxRecDepth 20000
section
variable {f:FD}[OkC f]
def dcC(f:FD)(be bl r b n bw bE s:Nat)(vv vs vl vp:Value):List Value:=
 [.int .i64 (FD.ch f:Nat),.int .i64 (f.q:Nat),.slice (some ⟨be,0,none⟩) (f.q-1) (f.q-1),.slice (some ⟨bl,0,none⟩) f.q f.q,
  .int .i64 (FD.ch f:Nat),.int .i64 (f.q:Nat),.int .i64 (f.poly:Nat),.int .i64 r,.int .i64 b,
  .slice (some ⟨bw,0,some 1⟩) n n,.slice (some ⟨bE,0,none⟩) n n,.int .i64 s,vv,vs,vl,vp]
def erL(n:Nat)(er:Nat->Bool):List Value:=(List.range n).map fun i=>.bool (er i)
theorem IU(n:Nat)(er:Nat->Bool):(erL n er).length=n:=by simp[erL]
theorem Mf{n:Nat}{er:Nat->Bool}{i:Nat}(h:i<n):(erL n er)[i]?=some (.bool (er i)):=by simp[erL,h]
structure Dc (H:Heap)(g:El f)(d be bl r b bw bE s:Nat)(w:List (El f))(er:Nat->Bool)(vv vs vl vp:Value):Prop where
 box:H.get d=some (dcC f be bl r b w.length bw bE s vv vs vl vp)
 ar:ArH H g be bl
 word:H.get bw=some (elL w)
 eras:H.get bE=some (erL w.length er)
 h1:be<bw
 h2:bl<bw
 h3:bw<bE
 h4:bE<d
variable {lo:Nat}{H:Heap}{g:El f}{d be bl r b bw bE s:Nat}{w:List (El f)}{er:Nat->Bool}{vv vs vl vp:Value}
theorem Dc.mono{H':Heap}(h:Dc H g d be bl r b bw bE s w er vv vs vl vp)(e:Ext H H'):Dc H' g d be bl r b bw bE s w er vv vs vl vp:=
 ⟨e.get h.box,h.ar.mono e,e.get h.word,e.get h.eras,h.h1,h.h2,h.h3,h.h4⟩
theorem Dc.keep{H':Heap}{vv' vs' vl' vp':Value}(h:Dc H g d be bl r b bw bE s w er vv vs vl vp)(e:Keep d H H')(hb:H'.get d=some (dcC f be bl r b w.length bw bE s vv' vs' vl' vp')):Dc H' g d be bl r b bw bE s w er vv' vs' vl' vp':=by
 have h1:=h.h1;have h2:=h.h2;have h3:=h.h3;have h4:=h.h4;exact⟨hb,h.ar.keep e byO byO,e.get h.word byO,e.get h.eras byO,h1,h2,h3,h4⟩
theorem eN{H H':Heap}(h:Ext H H')(d:Nat)(x:Option (List Value)):Keep d H (H'.set d x):=⟨by simpa using h.1,fun i hi hne=>by rw[aF (Ne.symm hne)];exact h.2 i hi⟩
theorem dP{b:Nat}{A B C:Heap}(h:Keep b A B)(k:Keep b B C):Keep b A C:=⟨Nat.le_trans h.len k.len,fun i hi hne=>(k.eq i (bd₀ hi h.len) hne).trans (h.eq i hi hne)⟩
theorem eE{b:Nat}{A B:Heap}(h:Ext A B):Keep b A B:=⟨h.1,fun i hi _=>h.2 i hi⟩
theorem It{d:Nat}{H L:Heap}{x:Option (List Value)}:Keep d H (H.set d x++L):=⟨by simp,fun i hi hne=>by rw[aP (by simpa using hi),aF (Ne.symm hne)]⟩
theorem Ey{d:Nat}{H L:Heap}{c:List Value}(h:d<H.length):Heap.get (H.set d (some c)++L) d=some c:=by rw[aP (by simpa using h),aE h]
theorem Ez{d:Nat}{H L:Heap}{x:Option (List Value)}{c:List Value}:Heap.get (H.set d x++(some c::L)) H.length=some c:=by
 have:=aH (H:=H.set d x) (c:=c) (L:=L);rwa [List.length_set]at this
namespace XSa
def xtr:=zzi @Int.cast_ofNat_Int (zzi @fv.eq_1 (zzi @fvf.eq_1 (zzi @ite_self.{1} (zzi @lT (zzi @lS (zzi @lR (zzi @cdC.eq_1 (zzi @arC.eq_1 (zzi @dcC.eq_1 (zzi @lK (zzi @dQ (zzi @gU (zzi @jV (zzi @Mf @IU))))))))))))))
end XSa
open XSa
theorem wC(hd:Dc H g d be bl r b bw bE s w er vv vs vl vp)(hwl:w.length<=100000000)(i:Nat)(hi:i<w.length):Ev cp lo 165 [.pointer (some ⟨d,0,none⟩),.int .i64 i] H (fun v H'=>H'=H/\v=.int .i64 ((w.length-1-i:Nat):Int)):=by
 have g0:=hd.box;have hcast:((w.length-1-i:Nat):Int)=(w.length:Int)-1-i:=byO;rw[hcast];clear hcast hd;refine stG rfl rfl ?_;unfold LC;simp only[kB,aC];refine aD ?_;refine az ?_;exact⟨rfl,rfl⟩
set_option maxHeartbeats 1000000 in
theorem Fh(hlo:lo<=d)(hg:Gn (OkC.ok (f:=f)) g)(hd:Dc H g d be bl r b bw bE s w er vv vs vl vp)(hwl:w.length<=100000000)(hr:r<=100000000)(hb:b<=100000000) :
  Ev cp lo 116 [.pointer (some ⟨d,0,none⟩)] H (fun v H'=>v=.bool (decide (s<=r))/\Keep d H H'/\∃vv',Dc H' g d be bl r b bw bE s w er vv' vs vl vp/\SlE H' vv' (mc g r b w)/\NewV H.length vv'):=by
 have g0:=hd.box;have hl:=Heap.get_lt g0;refine stG rfl rfl ?_;unfold K2;simp only[kB,aC];refine aD ?_;refine aV ?_;refine aA (su byO hg hd.ar (cK (sp:=some 1) hd.word rfl) hwl r b hr hb) ?_;rintro v H1 ⟨hx1,bb,hbb,rfl,f1⟩;have hd1:=hd.mono hx1;have g0:=hd1.box;have hl1:=Heap.get_lt g0;refine aD ?_;refine az ?_;have hk:Keep d H (H1.set d (some (dcC f be bl r b w.length bw bE s (.slice (some ⟨bb,0,none⟩) r r) vs vl vp))):=eN hx1 _ _;refine⟨by simp[aM],hk,_,hd.keep hk (aE byO),?_,NewV.mk hbb⟩;exact cK (by rw[aF byO];exact f1) (aK _ _)
theorem GY(p:List (El f))(X:El f):wN p p 1 X=tab (p.length+1) (cv (lin X) (co p)):=by
 unfold wN;rw[show max p.length (p.length+1)=p.length+1 by omega];refine aS fun i hi=>?_;cases i with
 | zero=>rw[nz,mz _ byO];exact(show((co p 0)-((X)*0))=(co p 0) from bG [(co p 0),(X)] (.add (.v 0) (.neg (.mul (.v 1) .zero))) (.v 0) rfl)
 | succ i=>rw[nF,iz _ byO,Nat.add_sub_cancel]
theorem ja{n:Nat}{F:Ser (El f)}(h:∀i,n<=i->F i=0):co (tab n F)=F:=by
 funext i;rw[cm];split
 ·rfl
 ·exact(h i byO).symm
theorem vL(X:Nat->El f)(er:Nat->Bool)(n:Nat):∀i,sC er n+1<=i->gam X er n i=0:=by
 intro i hi;rw[vJ];exact eJ _ i (by unfold sC at hi;rw[ay₀];omega)
theorem kZ(er:Nat->Bool)(n:Nat):sC er (n+1)=sC er n+if er n=true then 1 else 0:=by
 unfold sC;rw[bZ,as₀];cases er n<;>rfl
theorem oZ(er:Nat->Bool):∀n,sC er n<=n
 | 0=>Nat.le_refl _
 | n+1=>by have:=oZ er n;rw[kZ];split<;>omega
set_option maxHeartbeats 2000000 in
theorem Mg(hlo:lo<=d)(hg:Gn (OkC.ok (f:=f)) g)(hd:Dc H g d be bl r b bw bE s w er vv vs vl vp)(hwl:w.length<=10000000) :
  Ev cp lo 117 [.pointer (some ⟨d,0,none⟩)] H (fun v H'=>v=.bool true/\Keep d H H'/\∃vs',Dc H' g d be bl r b bw bE s w er vv vs' vl vp/\SlE H' vs' (tab (sC er w.length+1) (gam (plc g w.length) er w.length))/\NewV H.length vs'):=by
 have g0:=hd.box;have hl:=Heap.get_lt g0;have k1:=hd.h1;have k2:=hd.h2;have k3:=hd.h3;have k4:=hd.h4;refine stG rfl rfl ?_;unfold K7;simp only[kB,aC];refine aD ?_;generalize hG:List.set H d _++_=G at *;have hkG:Keep d H G:=by rw[<-hG];exact It
 have g1:Heap.get G d=some (dcC f be bl r b w.length bw bE s vv (.slice (some ⟨H.length,0,none⟩) 1 1) vl vp):=by rw[<-hG];exact Ey hl
 have g2:Heap.get G H.length=some (elL (tab 1 (s1:Ser (El f)))):=by rw[<-hG,Ez];rfl
 clear hG;refine aT (fun i S H'=>Keep d H H'/\∃bs,H.length<=bs/\Heap.get H' d=some (dcC f be bl r b w.length bw bE s vv (.slice (some ⟨bs,0,none⟩) (sC er i+1) (sC er i+1)) vl vp)/\Heap.get H' bs=some (elL (tab (sC er i+1) (gam (plc g w.length) er i)))/\∃(z:Nat->Value),S=[.pointer (some ⟨d,0,none⟩),.bool false,z 2,z 3,z 4,z 5,.slice (some ⟨bE,0,none⟩) w.length w.length,.int .i64 (w.length:Nat),.int .i64 (i:Nat),z 9,z 10,z 11,z 12,z 13,z 14,z 15,z 16]) w.length ?_ ?_ ?_ ?_
 ·exact⟨hkG,H.length,Nat.le_refl _,g1,g2,aJ rfl⟩
 ·rintro i S H' hi ⟨hk,bs,hbs,f1,f2,z,rfl⟩
  exact⟨_,bD,by simp⟩
 ·clear g0 g1 g2 hkG
  rintro i S H1 hi ⟨hk,bs,hbs,f1,f2,z,rfl⟩;have hd1:=hd.keep hk f1;have ge:=hd1.eras;have hsl:=oZ er i;have hss:=kZ er i;have hgs:gam (plc g w.length) er (i+1)=if er i=true then cv (lin (plc g w.length i)) (gam (plc g w.length) er i) else gam (plc g w.length) er i:=rfl
  refine aD ?_;refine ah ?_ ?_<;>intro h
  ·rw[h,if_pos rfl]at hss hgs
   rw[hss,hgs];clear h hss hgs;(try simp only[aC]);refine aV ?_;refine aa (wC hd1 byO i hi) ?_;rintro v H2 ⟨rfl,rfl⟩;(try simp only[aC]);refine aV ?_;refine aa (pP hg hd1.ar (w.length-1-i) byO) ?_;rintro v H2 ⟨hx2,rfl⟩;have hd2:=hd1.mono hx2;have f1:=(hx2).get f1;have f2:=(hx2).get f2;have hl1:=hk.len;have hl2:=hx2.1;have hle:=cK (sp:=none) f2 (aK _ _);(try simp only[aC]);refine aV ?_;refine aA (BV (n:=1) byO hg hd2.ar hle hle (by rw[aK];omega) (by rw[aK];omega) byO (plc g w.length i)) ?_;rintro v H3 ⟨hx3,b3,hb3,rfl,f3⟩;have hxl:=hx3.1;rw[GY,ja (vL _ _ _),aK]at f3 ⊢;rw[aK];have f1:=(hx3).get f1;clear hle;refine aD ?_;refine⟨dP hk (eN (hx2.trans hx3) _ _),b3,byO,aE byO,?_,aJ ncM⟩;rw[aF byO];exact f3
  ·rw[h,if_neg (by simp)]at hss hgs
   rw[hss,hgs];clear h hss hgs;refine aD ?_;exact⟨hk,bs,hbs,f1,f2,aJ ncM⟩
 ·rintro S H1 ⟨hk,bs,hbs,f1,f2,z,rfl⟩
  refine aD ?_;refine az ?_;exact⟨rfl,hk,_,hd.keep hk f1,cK f2 (aK _ _),NewV.mk hbs⟩
theorem Gs{b1 r s:Nat}{l:List (El f)}(h:H.get b1=some (elL l))(hl:l.length=r)(hs:s<=r):SlE H (.slice (some ⟨b1,if r=s then 0 else s,none⟩) (r-s) (r-s)) (l.drop s):=by
 have hlen:(l.drop s).length=r-s:=by rw[List.length_drop,hl]
 refine .inr ⟨b1,_,none,r-s,_,by rw[hlen],h,?_,?_,.inl rfl,byO⟩
 ·rw[hlen]
  split
  ·rename_i e
   rw[<-e,Nat.sub_self,List.take_zero,List.drop_of_length_le byO];rfl
  ·rw[List.take_of_length_le (by rw[List.length_drop,dQ];omega)]
   unfold elL;rw[List.map_drop]
 ·rw[hlen,dQ];split<;>omega
set_option maxHeartbeats 1000000 in
theorem Iy(hlo:lo<=d)(hg:Gn (OkC.ok (f:=f)) g)(hd:Dc H g d be bl r b bw bE (sC er w.length) w er vv vs vl vp)(hwl:w.length<=10000000)(hr:r<=10000000)(hsr:sC er w.length<=r)(hv:SlE H vv (mc g r b w))(hs:SlE H vs (tab (sC er w.length+1) (gam (plc g w.length) er w.length))) :
  Ev cp lo 118 [.pointer (some ⟨d,0,none⟩)] H (fun v H'=>v=.bool (decide (2*((eO (plc g w.length) er w.length r (syS g r b w)).length-1)+sC er w.length<=r))/\Keep d H H'/\∃vl',Dc H' g d be bl r b bw bE (sC er w.length) w er vv vs vl' vp/\SlE H' vl' (eO (plc g w.length) er w.length r (syS g r b w))/\NewV H.length vl'):=by
 have g0:=hd.box;have hl:=Heap.get_lt g0;have hsw:=oZ er w.length;refine stG rfl rfl ?_;unfold K8;simp only[kB,aC];refine aD ?_;refine aV ?_;refine aA (sQ byO hg hd.ar hv hs (by unfold mc;rw[aK];omega) (by rw[aK];omega) r byO) ?_;rintro v H1 ⟨hx1,b1,hb1,rfl,f1⟩;have hd1:=hd.mono hx1;have g0:=hd1.box;have hl1:=Heap.get_lt g0;rw[ja (vL _ _ _)]at f1;have hsub:((r:Int)-(sC er w.length:Nat))=((r-sC er w.length:Nat):Int):=byO;refine aD ?_;refine aV ?_;have hlo1:lo<=H1.length:=byO;refine aA (F5 hlo1 hg hd1.ar (Gs f1 (aK _ _) hsr) (by rw[List.length_drop,aK];omega)) ?_;rintro v H2 ⟨hx2,hlam,hnew⟩;have hlam:SlE H2 v (eO (plc g w.length) er w.length r (syS g r b w)):=hlam;have hone:=vU (plc g w.length) er w.length r (syS g r b w);have hpos:1<=(eO (plc g w.length) er w.length r (syS g r b w)).length:=by
  apply Decidable.byContradiction;intro hc;rw[fY byO]at hone;exact j3 hone.symm
 have hmax:(eO (plc g w.length) er w.length r (syS g r b w)).length<=20000000:=by
  refine Nat.le_trans (lh _) ?_;rw[aK];have:=(uk (co (nA (plc g w.length) er w.length r (syS g r b w))) (nA (plc g w.length) er w.length r (syS g r b w)).length).1;rw[pZ]at this;rw[pZ];omega
 clear hone;generalize eO (plc g w.length) er w.length r (syS g r b w)=lam at *;have hd2:=hd1.mono hx2;have g0:=hd2.box;have hl2:=Heap.get_lt g0;obtain⟨al,cl',rfl⟩:=hlam.len;clear hsub;refine aD ?_;refine az ?_;have hk:Keep d H (H2.set d (some (dcC f be bl r b w.length bw bE (sC er w.length) vv vs (.slice al lam.length cl') vp))):=eN (hx1.trans hx2) _ _;have hk2:Keep d H2 (H2.set d (some (dcC f be bl r b w.length bw bE (sC er w.length) vv vs (.slice al lam.length cl') vp))):=eN (Ext.refl _) _ _;refine⟨?_,hk,_,hd.keep hk (aE byO),eL hlam hnew hk2 byO,hnew.mono hx1.1⟩;have e:((2*((lam.length:Int)-1)+(sC er w.length:Nat)<=(r:Int))↔(2*(lam.length-1)+sC er w.length<=r)):=byO;simp only[aM,e]
end
open Go.Abs Go.RS
section
variable {f:FD}[OkC f]{lo:Nat}{H:Heap}{g:El f}{d be bl r b bw bE s:Nat}{w:List (El f)}{er:Nat->Bool}{vv vs vl vp:Value}
def oQ(l:List Nat):List Value:=l.map fun i=>.int .i64 (i:Nat)
theorem sF(l:List Nat):(oQ l).length=l.length:=by simp[oQ]
theorem Gx{g:El f}{r b:Nat}{w:List (El f)}:(∀k,k<r->co (mc g r b w) k=0)↔C2 g r b w:=by
 constructor
 ·intro h k hk
  have:=h k hk;unfold mc at this;rwa [cm,if_pos hk]at this
 ·intro h k hk
  unfold mc;rw[cm,if_pos hk];exact h k hk
open XSa
set_option maxHeartbeats 1000000 in
theorem M3(hlo:lo<=H.length)(hg:Gn (OkC.ok (f:=f)) g)(hd:Dc H g d be bl r b bw bE s w er vv vs vl vp)(hwl:w.length<=10000000)(hr:r<=10000000)(hb:b<=10000000) :
  Ev cp lo 121 [.pointer (some ⟨d,0,none⟩)] H (fun v H'=>Ext H H'/\∃t,v=.bool t/\(t=true↔C2 g r b w)):=by
 have g0:=hd.box;have hl:=Heap.get_lt g0;rw[<-Gx];refine stG rfl rfl ?_;unfold Kb;simp only[kB,aC];refine aD ?_;refine aV ?_;refine aA (su hlo hg hd.ar (cK (sp:=some 1) hd.word rfl) byO r b byO byO) ?_;rintro v H1 ⟨hx1,bb,hbb,rfl,f1⟩;have hsl:(mc g r b w).length=r:=aK _ _;have hsl':r<=(mc g r b w).length/\(mc g r b w).length<=r:=byO;clear hsl;generalize mc g r b w=sy at *;refine aD ?_;refine aT (fun i S H'=>H1=H'/\(∀k,k<i->co sy k=0)/\∃(z:Nat->Value),S=[.pointer (some ⟨d,0,none⟩),.bool false,z 2,.slice (some ⟨bb,0,none⟩) r r,.int .i64 (r:Nat),.int .i64 (i:Nat)]) r ?_ ?_ ?_ ?_
 ·exact⟨rfl,byO,aJ rfl⟩
 ·rintro i S H' hi ⟨rfl,-,z,rfl⟩
  exact⟨_,bD,by simp⟩
 ·rintro i S H' hi ⟨rfl,hall,z,rfl⟩
  refine aD ?_;refine ah ?_ ?_<;>intro h
  ·have hne:¬ ∀k,k<r->co sy k=0:=by
    intro hz;have:=hz i hi;unfold co at this;rw[this,qL]at h;simp at h
   clear h;refine aD ?_;refine az ?_;exact⟨hx1,false,rfl,by simp[hne]⟩
  ·have hz:co sy i=0:=by
    apply Decidable.byContradiction;intro hc;have:=jO hc;unfold co at this;simp at h this;omega
   clear h;refine aD ?_;refine⟨by trivial,fun k hk=>?_,aJ ncM⟩;by_cases e:k=i
   ·rw[e];exact hz
   ·exact hall k byO
 ·rintro S H' ⟨rfl,hall,z,rfl⟩
  refine aD ?_;refine az ?_;exact⟨hx1,true,rfl,by simp;exact hall⟩
theorem xk{d bp:Nat}{H A B:Heap}(h:Keep d H A)(k:Keep bp A B)(hb:H.length<=bp):Keep d H B:=⟨Nat.le_trans h.len k.len,fun i hi hne=>(k.eq i (bd₀ hi h.len) byO).trans (h.eq i hi hne)⟩
theorem mF{d:Nat}{H A:Heap}(h:Keep d H A)(x:Option (List Value)):Keep d H (A.set d x):=dP h (eN (Ext.refl _) d x)
theorem yT(hg:Gn (OkC.ok (f:=f)) g){n i:Nat}(hn:n<=f.q-1)(hi:i<n):pw g (f.q-1-(n-1-i))=inv (plc g n i):=by
 unfold plc;exact(FU (df hg).2.1 byO).symm
set_option maxHeartbeats 4000000 in
theorem Jq(hlo:lo<=d)(hg:Gn (OkC.ok (f:=f)) g){lam:List (El f)}(hd:Dc H g d be bl r b bw bE s w er vv vs vl (.slice none 0 0))(hwl:w.length<=f.q-1)(hlam:SlE H vl lam)(hnew:NewV (d+1) vl)(hll:lam.length<=20000000)(hl1:1<=lam.length) :
  Ev cp lo 119 [.pointer (some ⟨d,0,none⟩)] H (fun v H'=>v=.bool (decide ((sel (isR (plc g w.length) er lam) w.length).length=lam.length-1))/\Keep d H H'/\∃vp' bp,Dc H' g d be bl r b bw bE s w er vv vs vl vp'/\H.length<=bp/\Own lo 1 H' vp' bp (oQ (sel (cG (plc g w.length) er lam) w.length))):=by
 have g0:=hd.box;have hl:=Heap.get_lt g0;have hq:=qle (f:=f);have k1:=hd.h1;have k2:=hd.h2;have k3:=hd.h3;have k4:=hd.h4;obtain⟨al,cl',rfl⟩:=hlam.len;refine stG rfl rfl ?_;unfold K9;simp only[kB,aC];refine aD ?_;refine aT (fun i S H'=>Keep d H H'/\∃vp' bp,H.length<=bp/\Heap.get H' d=some (dcC f be bl r b w.length bw bE s vv vs (.slice al lam.length cl') vp')/\Own lo 1 H' vp' bp (oQ (sel (cG (plc g w.length) er lam) i))/\∃(z:Nat->Value),S=[.pointer (some ⟨d,0,none⟩),.bool false,.int .i64 ((sel (isR (plc g w.length) er lam) i).length:Nat),z 3,z 4,z 5,.slice (some ⟨bE,0,none⟩) w.length w.length,.int .i64 (w.length:Nat),.int .i64 (i:Nat),z 9,z 10,z 11,z 12,z 13,z 14,z 15,z 16,z 17,z 18,z 19,z 20,z 21,z 22]) w.length ?_ ?_ ?_ ?_
 ·exact⟨eE (Ext.refl _),_,H.length,Nat.le_refl _,g0,Own.nil byO,aJ rfl⟩
 ·rintro i S H' hi ⟨hk,vp',bp,hbp,f1,hown,z,rfl⟩
  exact⟨_,bD,by simp⟩
 ·clear g0
  rintro i S H1 hi ⟨hk,vp',bp,hbp,f1,hown,z,rfl⟩;have hd1:=hd.keep hk f1;have ge:=hd1.eras;have hlam1:=eL hlam hnew hk byO;have hs1:=bZ (isR (plc g w.length) er lam) i;have hs2:=bZ (cG (plc g w.length) er lam) i;have hs3:(sel (isR (plc g w.length) er lam) i).length<=i:=oZ _ i;have hs4:(sel (cG (plc g w.length) er lam) i).length<=i:=oZ _ i;have hl1:=hk.len;refine aD ?_;refine aV ?_;refine aa (wC hd1 byO i hi) ?_;rintro v H2 ⟨rfl,rfl⟩;have hsub:((f.q:Int)-1-((w.length-1-i:Nat):Int))=((f.q-1-(w.length-1-i):Nat):Int):=byO;(try simp only[aC]);refine aV ?_;refine aA (pP hg hd1.ar (f.q-1-(w.length-1-i)) byO) ?_;rintro v H3 ⟨hx3,rfl⟩;rw[yT hg hwl hi];have hd3:=hd1.mono hx3;have hlam3:=hlam1.mono hx3;have hown:=hown.mono hx3;have f1:=(hx3).get f1;have ge:=(hx3).get ge;have hl3:=hx3.1;clear hsub;refine aD ?_;cases he:er i with
  | true=>
   have hb:cG (plc g w.length) er lam i=true:=by unfold cG;rw[he];rfl
   have hi0:isR (plc g w.length) er lam i=false:=by unfold isR;rw[he];rfl
   rw[hb,if_pos rfl]at hs2;rw[hi0,if_neg (by simp),List.append_nil]at hs1;rw[hs1];have hsl:oQ (sel (cG (plc g w.length) er lam) (i+1))=oQ (sel (cG (plc g w.length) er lam) i)++[.int .i64 (i:Nat)]:=by rw[hs2];simp[oQ]
   clear hb hi0 hs1 hs2;refine bJ (t:=false) bD ki qV (fun h=>by cases h) (fun _=>?_);(try simp only[aC]);refine ah ?_ ?_<;>intro h
   ·cases h
   clear h;(try simp only[aC]);refine ah ?_ ?_<;>intro h
   case refine_2=>cases h
   clear h;refine aD ?_;refine aV ?_;refine gQ (c:=[.int .i64 (i:Nat)]) (hown.mono (Ext.app _ _)) (by simp;omega) byO byO (by rw[sF];omega) aH (by simp) rfl rfl ?_;rintro v' H4 hown4 hk4 hl4;have hE:=Ext.app H3 [some [Value.int .i64 (i:Nat)]];have f1:=hk4.get (hE.get f1) byO;simp only[as₀,ak₀,an₀]at hown4;have hk5:=xk (dP hk (eE (hx3.trans hE))) hk4 hbp;have hl4:d<H4.length:=Heap.get_lt f1;obtain⟨a4,n4,rfl,-,-⟩:=hown4.len byO;refine aD ?_;refine⟨mF hk5 _,_,H3.length+(0+1),byO,aE hl4,?_,aJ ncM⟩;rw[hsl];exact hown4.keep (eN (Ext.refl _) _ _) byO
  | false=>
   refine bJ (t:=true) bD ki qV (fun _=>⟨_,bD,?_⟩) (fun h=>by cases h);refine aA (AS byO hg hd3.ar hlam3 byO (inv (plc g w.length i))) ?_;rintro v H5 ⟨hx5,rfl⟩;have hown:=hown.mono hx5;have f1:=(hx5).get f1;have hl5:=hx5.1;have hx5:=hx3.trans hx5;by_cases hz:hor lam (inv (plc g w.length i))=0
   ·have hb:cG (plc g w.length) er lam i=true:=by unfold cG isR;rw[he,decide_eq_true hz];rfl
    have hi0:isR (plc g w.length) er lam i=true:=by unfold isR;rw[he,decide_eq_true hz];rfl
    rw[hb,if_pos rfl]at hs2;rw[hi0,if_pos rfl]at hs1;have hsl:oQ (sel (cG (plc g w.length) er lam) (i+1))=oQ (sel (cG (plc g w.length) er lam) i)++[.int .i64 (i:Nat)]:=by rw[hs2];simp[oQ]
    have hlen:(sel (isR (plc g w.length) er lam) (i+1)).length=(sel (isR (plc g w.length) er lam) i).length+1:=by rw[hs1];simp
    rw[hz,qL,hlen];clear hb hi0 hs1 hs2 hlen;(try simp only[aC]);refine ah ?_ ?_<;>intro h
    case refine_2=>simp at h
    clear h;refine aD ?_;refine aV ?_;refine gQ (c:=[.int .i64 (i:Nat)]) (hown.mono (Ext.app _ _)) (by simp;omega) byO byO (by rw[sF];omega) aH (by simp) rfl rfl ?_;rintro v' H4 hown4 hk4 hl4;have hE:=Ext.app H5 [some [Value.int .i64 (i:Nat)]];have f1:=hk4.get (hE.get f1) byO;simp only[as₀,ak₀,an₀]at hown4;have hk5:=xk (dP hk (eE (hx5.trans hE))) hk4 hbp;have hl4:d<H4.length:=Heap.get_lt f1;obtain⟨a4,n4,rfl,-,-⟩:=hown4.len byO;refine aD ?_;refine⟨mF hk5 _,_,H5.length+(0+1),byO,aE hl4,?_,aJ ncM⟩;rw[hsl];exact hown4.keep (eN (Ext.refl _) _ _) byO
   ·have hb:cG (plc g w.length) er lam i=false:=by unfold cG isR;rw[he,decide_eq_false hz];rfl
    have hi0:isR (plc g w.length) er lam i=false:=by unfold isR;rw[he,decide_eq_false hz];rfl
    have hnz:=jO hz;rw[hb,if_neg (by simp),List.append_nil]at hs2;rw[hi0,if_neg (by simp),List.append_nil]at hs1;rw[hs1,hs2];clear hb hi0 hs1 hs2;(try simp only[aC]);refine ah ?_ ?_<;>intro h
    ·simp at h;omega
    clear h;(try simp only[aC]);refine ah ?_ ?_<;>intro h
    ·cases h
    clear h;refine aD ?_;exact⟨dP hk (eE hx5),vp',bp,hbp,f1,hown,aJ ncM⟩
 ·rintro S H1 ⟨hk,vp',bp,hbp,f1,hown,z,rfl⟩
  have hs3:(sel (isR (plc g w.length) er lam) w.length).length<=w.length:=oZ _ _;refine aD ?_;refine az ?_;refine⟨?_,hk,vp',bp,hd.keep hk f1,hbp,hown⟩;have e:(((sel (isR (plc g w.length) er lam) w.length).length:Int)=(lam.length:Int)-1)↔((sel (isR (plc g w.length) er lam) w.length).length=lam.length-1):=byO;simp only[aM,e]
end
section
variable {f:FD}[OkC f]{lo:Nat}{H:Heap}{g:El f}{d be bl r b bw bE s:Nat}{w:List (El f)}{er:Nat->Bool}{vv vs vl vp:Value}
def Ea(i:Nat):Value:=.int .i64 (i:Nat)
theorem Dc.word'{H':Heap}{w':List (El f)}(h:Dc H g d be bl r b bw bE s w er vv vs vl vp)(e:Keep bw H H')(hl:w'.length=w.length)(hw:H'.get bw=some (elL w')):Dc H' g d be bl r b bw bE s w' er vv vs vl vp:=by
 have h1:=h.h1;have h2:=h.h2;have h3:=h.h3;have h4:=h.h4;exact⟨by rw[hl];exact e.get h.box byO,h.ar.keep e byO byO,hw,by rw[hl];exact e.get h.eras byO,h1,h2,h3,h4⟩
noncomputable def hZ(w:List (El f))(P:List Nat)(E:Nat->El f)(j:Nat):List (El f):=tab w.length (fun i=>if i ∈ P.take j then co w i-E i else co w i)
theorem pN(w:List (El f))(P:List Nat)(E:Nat->El f)(j:Nat):(hZ w P E j).length=w.length:=aK _ _
theorem zu(w:List (El f))(P:List Nat)(E:Nat->El f):hZ w P E 0=w:=by
 unfold hZ;simp[w6]
theorem j4{P:List Nat}{j:Nat}(hj:j<P.length)(i:Nat):i ∈ P.take (j+1)↔i ∈ P.take j\/i=P.getD j 0:=by
 rw[List.take_add_one,be₀,bc₀ hj,au₀,bc₀ hj];simp
theorem vh{P:List Nat}(hP:P.Nodup){j:Nat}(hj:j<P.length):P.getD j 0 ∉ P.take j:=by
 rw[au₀,bc₀ hj];intro h;obtain⟨k,hk,e⟩:=List.getElem_of_mem h;rw[List.length_take]at hk;rw[List.getElem_take]at e;exact List.pairwise_iff_getElem.1 (List.nodup_iff_pairwise_ne.1 hP) k j byO hj byO e
theorem GJ{w:List (El f)}{P:List Nat}{E:Nat->El f}{j:Nat}(hP:P.Nodup)(hb:∀i ∈ P,i<w.length)(hj:j<P.length):(hZ w P E j).getD (P.getD j 0) 0=co w (P.getD j 0):=by
 have hm:P.getD j 0 ∈ P:=by rw[au₀,bc₀ hj];exact List.getElem_mem hj
 unfold hZ;rw[fj (hb _ hm),if_neg (vh hP hj)]
theorem Cr{w:List (El f)}{P:List Nat}{E:Nat->El f}{j:Nat}(hj:j<P.length):(hZ w P E j).set (P.getD j 0) (co w (P.getD j 0)-E (P.getD j 0))=hZ w P E (j+1):=by
 unfold hZ;rw[gO];refine aS fun i _=>?_;by_cases e:i=P.getD j 0
 ·rw[if_pos e,if_pos ((j4 hj i).2 (.inr e)),e]
 ·rw[if_neg e]
  by_cases h:i ∈ P.take j
  ·rw[if_pos h,if_pos ((j4 hj i).2 (.inl h))]
  ·rw[if_neg h,if_neg (fun h2=>((j4 hj i).1 h2).elim h e)]
theorem E4(N:Nat)(F:Ser (El f))(hF:∀i,N<=i->F i=0):Ma (tab N F)=tab (N-1) (der F):=by
 unfold Ma;rw[aK,ja hF];rfl
open XSa
set_option maxHeartbeats 4000000 in
theorem EJ(hlo:lo<=bw)(hg:Gn (OkC.ok (f:=f)) g){P:List Nat}{lam:List (El f)}{Γ S:Ser (El f)}(hd:Dc H g d be bl r b bw bE s w er vv vs vl vp)(hwl:w.length<=f.q-1)(hr:r<=10000000)(hbb:b<=10000000)
  (hv:SlE H vv (tab r S)) (hs:SlE H vs (tab (s+1) Γ)) (hs0:s<=100000) (hΓ:∀i,s+1<=i->Γ i=0) (hlam:SlE H vl lam) (hl1:1<=lam.length) (hl2:lam.length<=20000000) (hp:Sl Ea H vp P) (hpn:NewV (d+1) vp)
  (hP:P.Nodup) (hPb:∀i ∈ P,i<w.length) (hboth:cv Γ (co lam)=ag (P.map (plc g w.length))) (hPl:P.length=s+(lam.length-1)) :
  Ev cp lo 120 [.pointer (some ⟨d,0,none⟩)] H (fun v H'=>v=.bool true/\Keep bw H H'/\Dc H' g d be bl r b bw bE s (hZ w P (xW (plc g w.length) b r S P) P.length) er vv vs vl vp):=by
 have hPl':P.length<=s+(lam.length-1)/\s+(lam.length-1)<=P.length:=byO;clear hPl;have g0:=hd.box;have hl:=Heap.get_lt g0;have hq:=qle (f:=f);have k1:=hd.h1;have k2:=hd.h2;have k3:=hd.h3;have k4:=hd.h4;have hlins:=eJ (P.map (plc g w.length));rw[ay₀]at hlins;obtain⟨as',cs',rfl⟩:=hs.len;obtain⟨al,cl',rfl⟩:=hlam.len;obtain⟨ap,cp',rfl⟩:=hp.len;have hN:((tab (s+1) Γ).length:Int)+(lam.length:Int)-1=((P.length+1:Nat):Int):=by rw[aK];omega
 have htl:(tab (s+1) Γ).length=s+1:=aK _ _;have htl':(tab (s+1) Γ).length<=s+1/\s+1<=(tab (s+1) Γ).length:=byO;clear htl;refine stG rfl rfl ?_;unfold Ka;simp only[kB,aC];refine aD ?_;refine aV ?_;refine aA (sQ byO hg hd.ar hs hlam byO byO (P.length+1) byO) ?_;rintro v H1 ⟨hx1,b1,hb1,rfl,f1⟩;rw[ja hΓ,hboth]at f1;have hd1:=hd.mono hx1;have g0:=hd1.box;have hl1':=hx1.1;clear hN;refine aD ?_;refine aV ?_;refine aA (sQ byO hg hd1.ar (hv.mono hx1) (cK (sp:=none) f1 (aK _ _)) (by rw[aK];omega) (by rw[aK];omega) r byO) ?_;rintro v H2 ⟨hx2,b2,hb2,rfl,f2⟩;rw[ja (F:=ag (P.map (plc g w.length))) (fun i hi=>hlins i byO)]at f2;have hd2:=hd1.mono hx2;have g0:=hd2.box;have hl2':=hx2.1;have f1:=hx2.get f1;rw[aS (G:=cv S (ag (P.map (plc g w.length)))) (fun k hk=>jb (fun i hi=>by rw[cm,if_pos byO]) (fun _ _=>rfl))]at f2;refine aD ?_;refine aV ?_;refine aA (xM byO hg hd2.ar (cK (sp:=none) f1 (aK _ _)) (by rw[aK];omega) (by rw[aK];omega)) ?_;rintro vd H3 ⟨hx3,hsl,hnd⟩;rw[E4 _ _ (fun i hi=>hlins i byO),Nat.add_sub_cancel]at hsl;have hd3:=hd2.mono hx3;have g0:=hd3.box;have hl3':=hx3.1;have f2:=hx3.get f2;have hev:=cK (sp:=none) f2 (aK _ _);have hx3:=(hx1.trans hx2).trans hx3;have hp3:=hp.mono hx3;have hDs:1<=P.length->∀x,hor (tab P.length (der (ag (List.map (plc g w.length) P)))) x=pv (der (ag (List.map (plc g w.length) P))) (P.length-1) x:=fun h x=>zX _ _ h;have hDl:(tab P.length (der (ag (List.map (plc g w.length) P)))).length<=100000000:=by rw[aK];omega
 generalize tab P.length (der (ag (List.map (plc g w.length) P)))=Ds at *;obtain⟨ad,cd',rfl⟩:=hsl.len;have hnd:=hnd.mono (show d+1<=H2.length by omega);have hcor:=fun i hi=>Rk (b:=b) (r:=r) (S:=S) (gz hg) (df hg) hwl hP hPb (i:=i) hi;generalize ag (P.map (plc g w.length))=LP at *;generalize hE:xW (plc g w.length) b r S P=E at *;clear f1 f2 hboth hE;have hEl:(tab r (cv S LP)).length=r:=aK _ _;generalize tab r (cv S LP)=Ev' at *;have hEl':Ev'.length<=r/\r<=Ev'.length:=byO;clear hEl;refine aD ?_;refine aT (fun j S H'=>Keep bw H3 H'/\Heap.get H' bw=some (elL (hZ w P E j))/\∃(z:Nat->Value),S=[.pointer (some ⟨d,0,none⟩),.bool false,z 2,.slice (some ⟨b2,0,none⟩) r r,.slice ad Ds.length cd',z 5,z 6,z 7,z 8,z 9,z 10,z 11,.slice ap P.length cp',.int .i64 (P.length:Nat),.int .i64 (j:Nat),z 15,z 16,z 17,z 18,z 19,z 20,z 21,z 22,z 23,z 24,z 25,z 26,z 27,z 28,z 29,z 30,z 31,z 32,z 33,z 34,z 35]) P.length ?_ ?_ ?_ ?_
 ·exact⟨eE (Ext.refl _),by rw[zu];exact hd3.word,aJ rfl⟩
 ·rintro j S' H' hj ⟨hk,f1,z,rfl⟩
  exact⟨_,bD,by simp⟩
 ·clear g0
  rintro j S' H4 hj ⟨hk,f1,z,rfl⟩;have hd4:=hd3.word' hk (pN w P E j) f1;have hp4:=eL hp3 hpn hk byO;have hsl4:=eL hsl hnd hk byO;have hev4:=eL hev (NewV.mk (show d+1<=b2 by omega)) hk byO;have g0:=hd4.box;have hl4:=hk.len;obtain⟨xb,xo,xsp,xc,xs,e,gx,hat,hxl⟩:=hp4.els 0 byO;cases e;have hati:=hat j hj;have hm:P.getD j 0 ∈ P:=by rw[au₀,bc₀ hj];exact List.getElem_mem hj
  have hlt:=hPb _ hm;have hwa:=GJ (w:=w) (E:=E) hP hPb hj;have hws:=Cr (w:=w) (E:=E) hj;obtain⟨hc1,hc2⟩:=hcor _ hm;have hD:=hDs byO (inv (plc g w.length (P.getD j 0)));have hwl2:=pN w P E j;have hwl3:(hZ w P E j).length<=w.length/\w.length<=(hZ w P E j).length:=byO;clear hat hwl2;generalize P.getD j 0=i at *;generalize hZ w P E j=wj at *;unfold Ea at hati;rw[<-hD]at hc1 hc2;clear hD hcor hDs;have hmul:((w.length-1-i:Nat):Int)*((b:Int)+(f.q:Nat)-2)=(((w.length-1-i)*(b+(f.q-1-1)):Nat):Int):=by
   rw[Int.natCast_mul];congr 1;omega
  have hM:(w.length-1-i)*(b+(f.q-1-1))<=1000000000000:=Nat.le_trans (Nat.mul_le_mul (show w.length-1-i<=4096 by omega) (show b+(f.q-1-1)<=20000000 by omega)) byO;have hk2:w.length-1-i<=4096:=byO;have hri:=yT hg hwl hlt;have hsub:((f.q:Int)-1-((w.length-1-i:Nat):Int))=((f.q-1-(w.length-1-i):Nat):Int):=byO;have hri2:f.q-1-(w.length-1-i)<=1000000000000:=byO;have hwj:wj.length-1-i=w.length-1-i:=byO;generalize (w.length-1-i)*(b+(f.q-1-1))=M at *;generalize f.q-1-(w.length-1-i)=R at *;generalize plc g w.length i=X at *;generalize w.length-1-i=k at *;refine aD ?_;refine aV ?_;refine aa (wC hd4 byO i byO) ?_;rintro v H5 ⟨rfl,rfl⟩;rw[hwj];(try simp only[aC]);refine aV ?_;refine aA (pP hg hd4.ar R hri2) ?_;rintro v H5 ⟨hx5,rfl⟩;rw[hri];have hd5:=hd4.mono hx5;have f1:=(hx5).get f1;have gx:=(hx5).get gx;have g0:=(hx5).get g0;have hsl5:=hsl4.mono hx5;have hev5:=hev4.mono hx5;refine aD ?_;refine aV ?_;refine aa (wC hd5 byO i byO) ?_;rintro v H6 ⟨rfl,rfl⟩;rw[hwj];(try simp only[aC]);refine aV ?_;refine aA (pP hg hd5.ar M hM) ?_;rintro v H6 ⟨hx6,rfl⟩;have hd6:=hd5.mono hx6;have f1:=(hx6).get f1;have gx:=(hx6).get gx;have g0:=(hx6).get g0;have hsl6:=hsl5.mono hx6;have hev6:=hev5.mono hx6;have hl6:=hx5.1;have hl6':=hx6.1;clear hsub hmul hwj;refine aD ?_;refine aV ?_;refine aa (AS byO hg hd6.ar hsl6 byO (inv X)) ?_;rintro v H7 ⟨hx7,rfl⟩;have hd7:=hd6.mono hx7;have f1:=(hx7).get f1;have gx:=(hx7).get gx;have g0:=(hx7).get g0;have hev7:=hev6.mono hx7;have hl7':=hx7.1;(try simp only[aC]);refine aV ?_;refine aA (mulR hg hd7.ar (pw g M) (hor Ds (inv X))) ?_;rintro v H8 ⟨hx8,rfl⟩;have hd8:=hd7.mono hx8;have f1:=(hx8).get f1;have gx:=(hx8).get gx;have g0:=(hx8).get g0;have hev8:=hev7.mono hx8;have hl8':=hx8.1;have hcn:=jO hc1;refine aD ?_;refine ah ?_ ?_<;>intro h
  ·exfalso;simp at h;omega
  clear h;(try simp only[aC]);refine aV ?_;refine aa (AS byO hg hd8.ar hev8 byO (inv X)) ?_;rintro v H9 ⟨hx9,rfl⟩;have hd9:=hd8.mono hx9;have f1:=(hx9).get f1;have gx:=(hx9).get gx;have g0:=(hx9).get g0;have hl9':=hx9.1;(try simp only[aC]);refine aV ?_;refine aa (Pt hg hd9.ar (hor Ev' (inv X)) (pw g M*hor Ds (inv X)) hc1) ?_;rintro v H10 ⟨hx10,rfl⟩;rw[hc2];have hd10:=hd9.mono hx10;have f1:=(hx10).get f1;have gx:=(hx10).get gx;have g0:=(hx10).get g0;have hl10':=hx10.1;(try simp only[aC]);refine aV ?_;refine aa (DY (co w i) (-E i)) ?_;rintro v H11 ⟨hx11,rfl⟩;have hd11:=hd10.mono hx11;have f1:=(hx11).get f1;have gx:=(hx11).get gx;have g0:=(hx11).get g0;have hl11':=hx11.1;have hws2:wj.set i (co w i+-E i)=hZ w P E (j+1):=hws;have hlb:=Heap.get_lt f1;clear hws;refine aD ?_;have hxx:=((((((hx5.trans hx6).trans hx7).trans hx8).trans hx9).trans hx10).trans hx11);refine⟨dP hk (eN hxx _ _),?_,aJ ncM⟩;rw[aE hlb]
 ·rintro S' H4 ⟨hk,f1,z,rfl⟩
  refine aD ?_;refine az ?_;exact⟨rfl,dP (eE hx3) hk,hd3.word' hk (pN _ _ _ _) f1⟩
end
section
variable {f:FD}[OkC f]{lo:Nat}{H:Heap}{g:El f}{d be bl r b bw bE s:Nat}{w:List (El f)}{er:Nat->Bool}{vv vs vl vp:Value}
def Low(m:Nat)(H H':Heap):Prop:=H.length<=H'.length/\∀i,i<m->i<H.length->H'.get i=H.get i
theorem Low.trans{m:Nat}{A B C:Heap}(h:Low m A B)(k:Low m B C):Low m A C:=⟨Nat.le_trans h.1 k.1,fun i hi hl=>(k.2 i hi (bd₀ hl h.1)).trans (h.2 i hi hl)⟩
theorem Low.keep{m b:Nat}{A B:Heap}(h:Keep b A B)(hb:m<=b):Low m A B:=⟨h.len,fun i hi hl=>h.eq i hl byO⟩
theorem Low.ext{m:Nat}{A B:Heap}(h:Ext A B):Low m A B:=⟨h.1,fun i _ hl=>h.2 i hl⟩
theorem Low.toExt{m:Nat}{A B C:Heap}(h:Ext A B)(k:Low m B C)(hm:A.length<=m):Ext A C:=⟨Nat.le_trans h.1 k.1,fun i hi=>(k.2 i byO (bd₀ hi h.1)).trans (h.2 i hi)⟩
theorem Cq(g:El f)(r b:Nat)(w:List (El f))(er:Nat->Bool):hZ w (sel (cG (plc g w.length) er (eO (plc g w.length) er w.length r (syS g r b w))) w.length) (xW (plc g w.length) b r (syS g r b w) (sel (cG (plc g w.length) er (eO (plc g w.length) er w.length r (syS g r b w))) w.length)) (sel (cG (plc g w.length) er (eO (plc g w.length) er w.length r (syS g r b w))) w.length).length=mb g r b w er:=by
 unfold hZ mb;refine aS fun i hi=>?_;rw[List.take_length];by_cases h:cG (plc g w.length) er (eO (plc g w.length) er w.length r (syS g r b w)) i=true
 ·rw[if_pos h,if_pos (dV.2 ⟨hi,h⟩)]
 ·rw[if_neg h,if_neg (fun h2=>h (dV.1 h2).2)]
def nl:Value:=.slice none 0 0
def DW(H:Heap)(g:El f)(d be bl r b bw bE:Nat)(w:List (El f))(er:Nat->Bool):Nat->Prop
 | 0=>Dc H g d be bl r b bw bE (sC er w.length) w er nl nl nl nl
 | 1=>sC er w.length<=r/\∃vv,Dc H g d be bl r b bw bE (sC er w.length) w er vv nl nl nl/\SlE H vv (mc g r b w)/\NewV (d+1) vv
 | 2=>sC er w.length<=r/\∃vv vs,Dc H g d be bl r b bw bE (sC er w.length) w er vv vs nl nl/\SlE H vv (mc g r b w)/\NewV (d+1) vv/\SlE H vs (tab (sC er w.length+1) (gam (plc g w.length) er w.length))/\NewV (d+1) vs
 | 3=>sC er w.length<=r/\2*((eO (plc g w.length) er w.length r (syS g r b w)).length-1)+sC er w.length<=r/\∃vv vs vl,Dc H g d be bl r b bw bE (sC er w.length) w er vv vs vl nl/\SlE H vv (mc g r b w)/\NewV (d+1) vv/\SlE H vs (tab (sC er w.length+1) (gam (plc g w.length) er w.length))/\NewV (d+1) vs/\SlE H vl (eO (plc g w.length) er w.length r (syS g r b w))/\NewV (d+1) vl
 | 4=>sC er w.length<=r/\2*((eO (plc g w.length) er w.length r (syS g r b w)).length-1)+sC er w.length<=r/\(sel (isR (plc g w.length) er (eO (plc g w.length) er w.length r (syS g r b w))) w.length).length=(eO (plc g w.length) er w.length r (syS g r b w)).length-1/\∃vv vs vl vp,Dc H g d be bl r b bw bE (sC er w.length) w er vv vs vl vp/\SlE H vv (mc g r b w)/\NewV (d+1) vv/\SlE H vs (tab (sC er w.length+1) (gam (plc g w.length) er w.length))/\NewV (d+1) vs/\SlE H vl (eO (plc g w.length) er w.length r (syS g r b w))/\NewV (d+1) vl/\Sl Ea H vp (sel (cG (plc g w.length) er (eO (plc g w.length) er w.length r (syS g r b w))) w.length)/\NewV (d+1) vp
 | 5=>sC er w.length<=r/\2*((eO (plc g w.length) er w.length r (syS g r b w)).length-1)+sC er w.length<=r/\(sel (isR (plc g w.length) er (eO (plc g w.length) er w.length r (syS g r b w))) w.length).length=(eO (plc g w.length) er w.length r (syS g r b w)).length-1/\∃vv vs vl vp,Dc H g d be bl r b bw bE (sC er w.length) (mb g r b w er) er vv vs vl vp
 | _=>DecOK g r b w er/\∃vv vs vl vp,Dc H g d be bl r b bw bE (sC er w.length) (mb g r b w er) er vv vs vl vp
theorem At(X:Nat->El f)(er:Nat->Bool)(n r:Nat)(S:Ser (El f)):1<=(eO X er n r S).length:=by
 have hone:=vU X er n r S;apply Decidable.byContradiction;intro hc;rw[fY byO]at hone;exact j3 hone.symm
def Lr(k:Nat):FuncId:=match k with|0=>116|1=>117|2=>118|3=>119|4=>120|_=>121
theorem RM(hlo:lo<=bw)(hg:Gn (OkC.ok (f:=f)) g)(hwl:w.length<=f.q-1)(hr:r<=10000000)(hb:b<=10000000){k:Nat}(hk:k<6)(h:DW H g d be bl r b bw bE w er k) :
  Ev cp lo (Lr k) [.pointer (some ⟨d,0,none⟩)] H (fun v H'=>∃t,v=.bool t/\(∀i,i<H.length->i≠d->i≠bw->H'.get i=H.get i)/\H.length<=H'.length/\(t=true->DW H' g d be bl r b bw bE w er (k+1))/\(t=false->¬ DecOK g r b w er)):=by
 have hq:=qle (f:=f);have hsw:=oZ er w.length;have hX:=nU (gz hg) (df hg) hwl
 match k,hk with
 | 0,_=>
  have hd:Dc H g d be bl r b bw bE (sC er w.length) w er nl nl nl nl:=h;have hl:=Heap.get_lt hd.box;have h1:=hd.h3;have h2:=hd.h4;refine(Fh byO hg hd byO byO byO).mono ?_;rintro v H' ⟨rfl,hk,vv',hd',hs,hn⟩;refine⟨_,rfl,fun i hi hne _=>hk.eq i hi hne,hk.len,fun ht=>⟨by simpa using ht,vv',hd',hs,hn.mono byO⟩,fun ht hok=>?_⟩;have:=hok.few;simp at ht;omega
 | 1,_=>
  obtain⟨c1,vv,hd,hs,hn⟩:=h;have hl:=Heap.get_lt hd.box;have h1:=hd.h3;have h2:=hd.h4;refine(Mg byO hg hd byO).mono ?_;rintro v H' ⟨rfl,hk,vs',hd',hs2,hn2⟩;exact⟨_,rfl,fun i hi hne _=>hk.eq i hi hne,hk.len,fun _=>⟨c1,vv,vs',hd',eL hs hn hk byO,hn,hs2,hn2.mono byO⟩,fun ht=>by cases ht⟩
 | 2,_=>
  obtain⟨c1,vv,vs,hd,hs,hn,hs2,hn2⟩:=h;have hl:=Heap.get_lt hd.box;have h1:=hd.h3;have h2:=hd.h4;refine(Iy byO hg hd byO byO c1 hs hs2).mono ?_;rintro v H' ⟨rfl,hk,vl',hd',hs3,hn3⟩;refine⟨_,rfl,fun i hi hne _=>hk.eq i hi hne,hk.len,fun ht=>⟨c1,by simpa using ht,vv,vs,vl',hd',eL hs hn hk byO,hn,eL hs2 hn2 hk byO,hn2,hs3,hn3.mono byO⟩,fun ht hok=>?_⟩;have:=hok.cap;simp at ht;omega
 | 3,_=>
  obtain⟨c1,c2,vv,vs,vl,hd,hs,hn,hs2,hn2,hs3,hn3⟩:=h;have hl:=Heap.get_lt hd.box;have h1:=hd.h3;have h2:=hd.h4;have hlp:=At (plc g w.length) er w.length r (syS g r b w);refine(Jq byO hg hd hwl hs3 hn3 byO hlp).mono ?_;rintro v H' ⟨rfl,hk,vp',bp,hd',hbp,hown⟩;refine⟨_,rfl,fun i hi hne _=>hk.eq i hi hne,hk.len,fun ht=>⟨c1,c2,by simpa using ht,vv,vs,vl,vp',hd',eL hs hn hk byO,hn,eL hs2 hn2 hk byO,hn2,eL hs3 hn3 hk byO,hn3,Sl.ofOwn hown,NewV.own hown byO⟩,fun ht hok=>?_⟩;have:=hok.num;simp at ht;omega
 | 4,_=>
  obtain⟨c1,c2,c3,vv,vs,vl,vp,hd,hs,hn,hs2,hn2,hs3,hn3,hs4,hn4⟩:=h;have hl:=Heap.get_lt hd.box;have h1:=hd.h3;have h2:=hd.h4;have hlp:=At (plc g w.length) er w.length r (syS g r b w);have hbl:=Dm (X:=plc g w.length) (n:=w.length) (er:=er) (lam:=eO (plc g w.length) er w.length r (syS g r b w));refine(EJ (S:=syS g r b w) (Γ:=gam (plc g w.length) er w.length) hlo hg hd hwl byO byO (by unfold mc at hs;unfold syS;rw[show tab r (co (tab r fun i=>dJ w (pw g (b+i))))=tab r (fun i=>dJ w (pw g (b+i))) from aS fun i hi=>by rw[cm,if_pos hi]];exact hs) hs2 byO (vL _ _ _) hs3 hlp byO hs4 hn4 (jn _ _) (fun i hi=>(dV.1 hi).1) (Bv hX c3) (by rw[hbl,c3];rfl)).mono ?_;rintro v H' ⟨rfl,hk,hd'⟩;rw[Cq]at hd';exact⟨_,rfl,fun i hi _ hne=>hk.eq i hi hne,hk.len,fun _=>⟨c1,c2,c3,_,_,_,_,hd'⟩,fun ht=>by cases ht⟩
 | 5,_=>
  obtain⟨c1,c2,c3,vv,vs,vl,vp,hd⟩:=h;have hl:=Heap.get_lt hd.box;have h1:=hd.h3;have h2:=hd.h4;refine(M3 byO hg hd (by rw[lM];omega) byO byO).mono ?_;rintro v H' ⟨hx,t,rfl,ht⟩;refine⟨_,rfl,fun i hi _ _=>hx.2 i hi,hx.1,fun h=>⟨⟨c1,c2,c3,ht.1 h⟩,vv,vs,vl,vp,hd.mono hx⟩,fun h hok=>?_⟩;have:=ht.2 hok.cw;rw[h]at this;cases this
open XSa
set_option maxHeartbeats 4000000 in
theorem ku(hlo:lo<=bw)(hg:Gn (OkC.ok (f:=f)) g)(hwl:w.length<=f.q-1)(hr:r<=10000000)(hb:b<=10000000)(hd:Dc H g d be bl r b bw bE (sC er w.length) w er nl nl nl nl) :
  Ev cp lo 72 [.pointer (some ⟨d,0,none⟩)] H (fun v H'=>∃t,v=.bool t/\Low bw H H'/\(t=true↔DecOK g r b w er)/\(t=true->∃vv vs vl vp,Dc H' g d be bl r b bw bE (sC er w.length) (mb g r b w er) er vv vs vl vp)):=by
 have hl:=Heap.get_lt hd.box;have h3:=hd.h3;have h4:=hd.h4;refine stG rfl rfl ?_;unfold P2;simp only[kB,aC];refine aD ?_;generalize hFL:[Value.func (Fn.func 116) #[Value.pointer (some ⟨d,0,none⟩)] #[],Value.func (Fn.func 117) #[Value.pointer (some ⟨d,0,none⟩)] #[],Value.func (Fn.func 118) #[Value.pointer (some ⟨d,0,none⟩)] #[],Value.func (Fn.func 119) #[Value.pointer (some ⟨d,0,none⟩)] #[],Value.func (Fn.func 120) #[Value.pointer (some ⟨d,0,none⟩)] #[],Value.func (Fn.func 121) #[Value.pointer (some ⟨d,0,none⟩)] #[]]=FL;have hFL6:FL.length=6:=by rw[<-hFL];rfl
 have hFL7:FL.length<=6/\6<=FL.length:=byO;have hF:∀k,k<6->FL[k]?=some (.func (.func (Lr k)) #[.pointer (some ⟨d,0,none⟩)] #[]):=by
  intro k hk;rw[<-hFL]
  match k,hk with
  | 0,_=>rfl
  | 1,_=>rfl
  | 2,_=>rfl
  | 3,_=>rfl
  | 4,_=>rfl
  | 5,_=>rfl
 clear hFL hFL6;generalize hG:H++_=G at *;have g0:Heap.get G H.length=some FL:=by rw[<-hG];exact aH
 have hxG:Ext H G:=by rw[<-hG];exact Ext.app _ _
 clear hG;refine aT (fun k S H'=>Low bw H H'/\Heap.get H' H.length=some FL/\DW H' g d be bl r b bw bE w er k/\∃(z:Nat->Value),S=[.pointer (some ⟨d,0,none⟩),.bool false,z 2,z 3,z 4,.slice (some ⟨H.length,0,none⟩) 6 6,.int .i64 6,.int .i64 (k:Nat),z 8]) 6 ?_ ?_ ?_ ?_
 ·exact⟨Low.ext hxG,g0,hd.mono hxG,aJ rfl⟩
 ·rintro k S H' hk ⟨hx,f0,hst,z,rfl⟩
  exact⟨_,bD,by simp;omega⟩
 ·clear g0 hxG
  rintro k S H1 hk ⟨hx,f0,hst,z,rfl⟩;have hFk:=hF k hk;clear hF;refine aD ?_;refine aV ?_;refine aA (RM hlo hg hwl hr hb hk hst) ?_;rintro v H2 ⟨t,rfl,h1,h2,h3',h4'⟩;have hx2:Low bw H H2:=hx.trans ⟨h2,fun i hi hl=>h1 i hl byO byO⟩;have f0:=(h1 H.length (Heap.get_lt f0) byO byO).trans f0;cases t with
  | false=>
   have hno:=h4' rfl;(try simp only[aC]);refine ah ?_ ?_<;>intro h
   case refine_2=>cases h
   clear h;refine aD ?_;refine az ?_;exact⟨false,rfl,hx2,by simp[hno],fun h=>by cases h⟩
  | true=>
   have hst2:=h3' rfl;(try simp only[aC]);refine ah ?_ ?_<;>intro h
   ·cases h
   clear h;refine aD ?_;exact⟨hx2,f0,hst2,aJ ncM⟩
 ·rintro S H1 ⟨hx,f0,hst,z,rfl⟩
  obtain⟨hok,hdd⟩:=hst;refine aD ?_;refine az ?_;exact⟨true,rfl,hx,by simp[hok],fun _=>hdd⟩
end
def IA(k:Int):Value:=.tuple #[.agg #[.slice none 0 0,.slice none 0 0],.int .i64 k]
section
variable {lo:Nat}{H:Heap}{ch sz po r b:Int}{v ve:Value}{l e:List Int}
open XSa
end
open XSa
def erI(e:List Int)(i:Nat):Bool:=decide ((i:Int) ∈ e)
def inR(n:Nat)(e:List Int):Prop:=∀x ∈ e,0<=x/\x<n
theorem IV{n k:Nat}(er:Nat->Bool)(hk:k<n):(erL n er).set k (.bool true)=erL n (fun j=>er j || decide (j=k)):=by
 apply List.ext_getElem (by simp[erL]);intro i h1 h2;rw[List.getElem_set];have hi:i<n:=by simpa[erL]using h2
 simp only[erL,List.getElem_map,List.getElem_range];by_cases e:k=i
 ·rw[if_pos e,decide_eq_true e.symm,Bool.or_true]
 ·rw[if_neg e,decide_eq_false (Ne.symm e),Bool.or_false]
theorem IW{er:Nat->Bool}{k:Nat}(h:er k=true):(fun j=>er j || decide (j=k))=er:=by
 funext j;by_cases e:j=k
 ·rw[e,h];rfl
 ·rw[decide_eq_false e,Bool.or_false]
theorem O1{er:Nat->Bool}{k:Nat}(h:er k=false):∀n,k<n->sC (fun j=>er j || decide (j=k)) n=sC er n+1:=by
 have low:∀n,n<=k->sC (fun j=>er j || decide (j=k)) n=sC er n:=by
  intro n
  induction n with
  | zero=>intro _;rfl
  | succ n ih=>intro hn;rw[kZ,kZ,ih byO,decide_eq_false byO,Bool.or_false]
 intro n
 induction n with
 | zero=>intro hn;omega
 | succ n ih=>
  intro hn;rw[kZ,kZ];by_cases e:n=k
  ·rw[e,low k (Nat.le_refl _),h];simp
  ·rw[ih byO,decide_eq_false e,Bool.or_false];omega
theorem Eg{e:List Int}{i k:Nat}(hi:i<e.length)(hk:e.getD i 0=(k:Int)):erI (e.take (i+1))=fun j=>erI (e.take i) j || decide (j=k):=by
 have hts:e.take (i+1)=e.take i++[(k:Int)]:=by rw[List.take_add_one,<-hk,bc₀ hi,au₀,bc₀ hi];rfl
 funext j;unfold erI;rw[hts,Bool.eq_iff_iff];have e2:((j:Int)=(k:Int))↔j=k:=byO;simp only[be₀,List.mem_singleton,af₀,ar₀,e2]
theorem Gc(e:List Int):∀n,sC (erI (e.take 0)) n=0
 | 0=>rfl
 | n+1=>by rw[kZ,Gc e n];simp[erI]
section
variable {f:FD}[OkC f]
set_option maxHeartbeats 4000000 in
theorem E3{lo:Nat}{H:Heap}{g:El f}{v ve:Value}{w:List (El f)}{e:List Int}{r b:Nat}(hlo:lo<=H.length)(hg:Gn (OkC.ok (f:=f)) g)(hc:CdOK f r b)(hw:SlE H v w)(hwl:w.length<=10000000)(he:SlI H ve e)(hel:e.length<=10000000) :
  Ev cp lo 36 [cdV f r b,v,ve] H (fun v H'=>Ext H H'/\(¬ inR w.length e->v=IA 1)/\(inR w.length e->¬ (r<w.length/\w.length<f.q)->v=IA 7)/\(inR w.length e->r<w.length->w.length<f.q->¬ DecOK g r b w (erI e)->v=IA 17)
   /\ (inR w.length e->r<w.length->w.length<f.q->DecOK g r b w (erI e)->∃vw vc,v=.tuple #[.agg #[vw,vc],.int .i64 0]/\SlE H' vw (mb g r b w (erI e))/\Sl Ea H' vc (sel (fun i=>decide (co (mb g r b w (erI e)) i≠co w i)) w.length)/\NewV H.length vw/\NewV H.length vc)):=by
 have h2:=qle (f:=f);have hw0:=hw;have he0:=he;have hok:=vn hc;obtain⟨c1,c2,c3⟩:=hc;obtain⟨aw,cw,rfl⟩:=hw.len;obtain⟨ae,ce,rfl⟩:=he.len;unfold cdV;refine stG rfl rfl ?_;unfold PM;simp only[kB,aC];refine aD ?_;refine aV ?_;refine aA (wR (ch:=FD.ch f) (sz:=f.q) (po:=f.poly) (r:=r) (b:=b) (jR (OkC.ok (f:=f))) (o6 (hw0.mono (Ext.app _ _))) (by rw[dW];omega)) ?_;rintro v H1 ⟨hx1,t,rfl,ht⟩;have g0:H1.get H.length=some _:=hx1.get bD;have g1:H1.get (H.length+1)=some _:=hx1.get bD;have hx1:=hx1.of_app;have htt:t=true:=ht.2 ⟨hok,ij w⟩;subst htt;have hl1:=Heap.get_lt g1;(try simp only[aC]);refine ah ?_ ?_<;>intro h
 ·cases h
 clear h ht;refine aD ?_;refine fW (fun S H'=>H1=H'/\inR w.length e/\∃i z0 z5 z6 z7 z8 z9 z10 z11 z15 z16 z17 z18 z19 z20 z21 z22 z23 z24 z25 z26 z27 z28 z29 z30 z31,S=[z0,.slice aw w.length cw,.slice ae e.length ce,.pointer (some ⟨H.length,0,none⟩),.pointer (some ⟨H.length+1,0,none⟩),z5,z6,z7,z8,z9,z10,z11,.slice ae e.length ce,.int .i64 (e.length:Nat),.int .i64 (i:Nat),z15,z16,z17,z18,z19,z20,z21,z22,z23,z24,z25,z26,z27,z28,z29,z30,z31]) ?_ ?_
 ·refine aT (fun i S H'=>H1=H'/\inR w.length (e.take i)/\∃z0 z5 z6 z7 z8 z9 z10 z11 z15 z16 z17 z18 z19 z20 z21 z22 z23 z24 z25 z26 z27 z28 z29 z30 z31,S=[z0,.slice aw w.length cw,.slice ae e.length ce,.pointer (some ⟨H.length,0,none⟩),.pointer (some ⟨H.length+1,0,none⟩),z5,z6,z7,z8,z9,z10,z11,.slice ae e.length ce,.int .i64 (e.length:Nat),.int .i64 (i:Nat),z15,z16,z17,z18,z19,z20,z21,z22,z23,z24,z25,z26,z27,z28,z29,z30,z31]) e.length ?_ ?_ ?_ ?_
  ·exact⟨rfl,by simp[inR],_,_,_,_,_,_,_,_,_,_,_,_,_,_,_,_,_,_,_,_,_,_,_,_,_,rfl⟩
  ·rintro i S H' hi ⟨rfl,-,z0,z5,z6,z7,z8,z9,z10,z11,z15,z16,z17,z18,z19,z20,z21,z22,z23,z24,z25,z26,z27,z28,z29,z30,z31,rfl⟩
   exact⟨_,bD,by simp⟩
  ·rintro i S H' hi ⟨rfl,hin,z0,z5,z6,z7,z8,z9,z10,z11,z15,z16,z17,z18,z19,z20,z21,z22,z23,z24,z25,z26,z27,z28,z29,z30,z31,rfl⟩
   obtain⟨xb,xo,xsp,xc,xs,ee,gx,hat,hxl⟩:=(he0.mono hx1).els 0 byO;cases ee;have hati:=hat i hi;have hm:e.getD i 0 ∈ e:=by rw[au₀,bc₀ hi];exact List.getElem_mem hi
   have hts:e.take (i+1)=e.take i++[e.getD i 0]:=by rw[List.take_add_one,bc₀ hi,au₀,bc₀ hi];rfl
   clear hat;generalize e.getD i 0=x at *;refine aD ?_;refine ah ?_ ?_<;>intro h
   ·have hno:¬ inR w.length e:=fun h3=>by have:=h3 _ hm;simp at h;omega
    clear h;refine aD ?_;refine az ?_;exact⟨hx1.set byO,fun _=>rfl,fun h=>absurd h hno,fun h=>absurd h hno,fun h=>absurd h hno⟩
   ·have hx:0<=x/\x<w.length:=by simp at h;omega
    clear h;refine aD ?_;refine⟨by trivial,?_,_,_,_,_,_,_,_,_,_,_,_,_,_,_,_,_,_,_,_,_,_,_,_,_,_,ncM⟩;intro y hy;rw[hts]at hy;rcases List.mem_append.1 hy with h|h
    ·exact hin y h
    ·rw[List.mem_singleton.1 h];exact hx
  ·rintro S H' ⟨rfl,hin,z0,z5,z6,z7,z8,z9,z10,z11,z15,z16,z17,z18,z19,z20,z21,z22,z23,z24,z25,z26,z27,z28,z29,z30,z31,rfl⟩
   rw[List.take_length]at hin;exact⟨rfl,hin,e.length,_,_,_,_,_,_,_,_,_,_,_,_,_,_,_,_,_,_,_,_,_,_,_,_,_,rfl⟩
 rintro S H' ⟨rfl,hin,i0,z0,z5,z6,z7,z8,z9,z10,z11,z15,z16,z17,z18,z19,z20,z21,z22,z23,z24,z25,z26,z27,z28,z29,z30,z31,rfl⟩;refine aD ?_;refine aV ?_;refine aA (QR (ch:=FD.ch f) (sz:=f.q) (po:=f.poly) (r:=r) (b:=b) (n:=w.length)) ?_;rintro v H2 ⟨hx2,rfl⟩;have g0:=(hx2).get g0;have g1:=(hx2).get g1;have hx2:=hx1.trans hx2;have hl2:=hx2.1;(try simp only[aC]);refine ah ?_ ?_<;>intro h
 ·have hno:¬ (r<w.length/\w.length<f.q):=by
   intro hh;simp at h;omega
  clear h;have hl3:=Heap.get_lt g1;refine aD ?_;refine az ?_;exact⟨hx2.set byO,fun h=>absurd hin h,fun _ _=>rfl,fun _ h1 h2=>absurd ⟨h1,h2⟩ hno,fun _ h1 h2=>absurd ⟨h1,h2⟩ hno⟩
 have hlong:r<w.length/\w.length<f.q:=by simp at h;omega
 clear h;(try simp only[aC]);refine aV ?_;refine aa (uK byO hg) ?_;rintro v H3 ⟨hx3,be,bl,hbe,hbl,rfl,ha⟩;have g0:=(hx3).get g0;have g1:=(hx3).get g1;have hl3:=hx3.1;have hx3:=hx2.trans hx3;have hw3:=hw0.mono hx3;have g0h:=g0;have g1h:=g1;rcases hw3 with ⟨-,rfl⟩|⟨xb,xo,xsp,xc,xs,ee,gx,hd1,hd2,hd3,hd4⟩
 ·simp at hlong
 cases ee;unfold arV;(try simp only[aC]);refine aV ?_;refine gQ (c:=elL w) (Own.nil (b:=H3.length) byO) byO byO byO (by simp;omega) gx byO (by rw[Nat.mul_one];exact hd1) (vC w) ?_;rintro v4 H4 hown4 hk4 hl4;have hx4:Ext H3 H4:=hk4.ext (Ext.refl _) (Nat.le_refl _);rw[List.nil_append]at hown4;obtain⟨-,⟨-,h⟩|⟨m,hm,hml,rfl,gw⟩⟩:=hown4
 ·have:w.length=0:=by rw[<-dQ w,h];rfl
  omega
 have hmw:m=w.length:=by rw[dQ]at hml;omega
 subst hmw;have g0:=(hx4).get g0;have g1:=(hx4).get g1;clear hml;refine aD ?_;refine uh bD bD (.inl rfl) ?_;have hbl:gS (List.replicate w.length false)=erL w.length (erI (e.take 0)):=by
  simp[gS,erL,erI,List.map_const']
 rw[hbl];generalize hG:H4++_=G at *;have hx5:Ext H4 G:=by rw[<-hG];exact Ext.app _ _
 have ge:G.get (H3.length+1)=some (erL w.length (erI (e.take 0))):=by rw[<-hG,<-hl4];exact aH
 have gd:G.get (H3.length+1+1)=some (dcC f be bl r b w.length H3.length (H3.length+1) (sC (erI (e.take 0)) w.length) nl nl nl nl):=by
  rw[<-hG,Gc,show H3.length+1+1=H4.length+1 by omega,bO];rfl
 clear hG hbl;have hxG:=(hx3.trans hx4).trans hx5;have ha5:=(ha.mono hx4).mono hx5;have gw5:=hx5.get gw;have g0:=(hx5).get g0;have g1:=(hx5).get g1;have hal:=ha.lt;have he5:=he0.mono hxG;have hlG:=hx5.1;refine aD ?_;refine fW (fun S H'=>Low (H3.length+1) G H'/\Heap.get H' (H3.length+1)=some (erL w.length (erI e))/\Heap.get H' (H3.length+1+1)=some (dcC f be bl r b w.length H3.length (H3.length+1) (sC (erI e) w.length) nl nl nl nl)/\∃i z0 z2 z5 z6 z8 z9 z10 z11 z12 z13 z14 z15 z16 z17 z18 z19 z20 z21 z22 z26 z27 z28 z29 z30 z31,S=[z0,.slice (some ⟨xb,xo,xsp⟩) w.length cw,z2,.pointer (some ⟨H.length,0,none⟩),.pointer (some ⟨H.length+1,0,none⟩),z5,z6,.pointer (some ⟨H3.length+1+1,0,none⟩),z8,z9,z10,z11,z12,z13,z14,z15,z16,z17,z18,z19,z20,z21,z22,.slice ae e.length ce,.int .i64 (e.length:Nat),.int .i64 (i:Nat),z26,z27,z28,z29,z30,z31]) ?_ ?_
 ·refine aT (fun i S H'=>Low (H3.length+1) G H'/\Heap.get H' (H3.length+1)=some (erL w.length (erI (e.take i)))/\Heap.get H' (H3.length+1+1)=some (dcC f be bl r b w.length H3.length (H3.length+1) (sC (erI (e.take i)) w.length) nl nl nl nl)/\∃z0 z2 z5 z6 z8 z9 z10 z11 z12 z13 z14 z15 z16 z17 z18 z19 z20 z21 z22 z26 z27 z28 z29 z30 z31,S=[z0,.slice (some ⟨xb,xo,xsp⟩) w.length cw,z2,.pointer (some ⟨H.length,0,none⟩),.pointer (some ⟨H.length+1,0,none⟩),z5,z6,.pointer (some ⟨H3.length+1+1,0,none⟩),z8,z9,z10,z11,z12,z13,z14,z15,z16,z17,z18,z19,z20,z21,z22,.slice ae e.length ce,.int .i64 (e.length:Nat),.int .i64 (i:Nat),z26,z27,z28,z29,z30,z31]) e.length ?_ ?_ ?_ ?_
  ·exact⟨Low.ext (Ext.refl _),ge,gd,_,_,_,_,_,_,_,_,_,_,_,_,_,_,_,_,_,_,_,_,_,_,_,_,_,rfl⟩
  ·rintro i S H' hi ⟨-,-,-,z0,z2,z5,z6,z8,z9,z10,z11,z12,z13,z14,z15,z16,z17,z18,z19,z20,z21,z22,z26,z27,z28,z29,z30,z31,rfl⟩
   exact⟨_,bD,by simp⟩
  ·clear gd ge
   rintro i S H6 hi ⟨k1,k2,k3,z0,z2,z5,z6,z8,z9,z10,z11,z12,z13,z14,z15,z16,z17,z18,z19,z20,z21,z22,z26,z27,z28,z29,z30,z31,rfl⟩;have hx6:Ext H H6:=Low.toExt hxG k1 byO;obtain⟨yb,yo,ysp,yc,ys,ee,gy,hat,hyl⟩:=(he0.mono hx6).els 0 byO;cases ee;have hati:=hat i hi;have hm:e.getD i 0 ∈ e:=by rw[au₀,bc₀ hi];exact List.getElem_mem hi
   have hxr:=hin _ hm;obtain⟨k,hk⟩:∃k:Nat,e.getD i 0=(k:Int):=⟨(e.getD i 0).toNat,byO⟩;have hsu:=Eg hi hk;have hkl:k<w.length:=byO;rw[hk]at hati;clear hat hk hxr hm;have hsl:=oZ (erI (e.take i)) w.length;have hl6:=Heap.get_lt k3;refine aD ?_;cases hek:erI (e.take i) k with
   | true=>
    rw[IW hek]at hsu;rw[hsu];clear hsu;refine ah ?_ ?_<;>intro h
    ·cases h
    clear h hek;refine aD ?_;exact⟨k1,k2,k3,_,_,_,_,_,_,_,_,_,_,_,_,_,_,_,_,_,_,_,_,_,_,_,_,_,ncM⟩
   | false=>
    have hca:=O1 hek w.length hkl;have hse:=IV (erI (e.take i)) hkl;rw[<-hsu]at hca hse;clear hsu;refine ah ?_ ?_<;>intro h
    case refine_2=>cases h
    clear h hek;generalize hq1:sC (erI (e.take (i+1))) w.length=q1 at *;subst hca;generalize sC (erI (e.take i)) w.length=q0 at *;refine aD ?_;refine⟨k1.trans (Low.trans (Low.keep (eN (Ext.refl _) _ _) (Nat.le_refl _)) (Low.keep (eN (Ext.refl _) _ _) byO)),?_,?_,_,_,_,_,_,_,_,_,_,_,_,_,_,_,_,_,_,_,_,_,_,_,_,_,_,ncM⟩
    ·rw[aF byO,aE byO]
    ·rw[aE (by simp;omega)];rfl
  ·rintro S H' ⟨k1,k2,k3,z0,z2,z5,z6,z8,z9,z10,z11,z12,z13,z14,z15,z16,z17,z18,z19,z20,z21,z22,z26,z27,z28,z29,z30,z31,rfl⟩
   rw[List.take_length]at k2 k3;exact⟨k1,k2,k3,e.length,_,_,_,_,_,_,_,_,_,_,_,_,_,_,_,_,_,_,_,_,_,_,_,_,_,rfl⟩
 clear gd ge;rintro S H6 ⟨k1,k2,k3,i6,z0,z2,z5,z6,z8,z9,z10,z11,z12,z13,z14,z15,z16,z17,z18,z19,z20,z21,z22,z26,z27,z28,z29,z30,z31,rfl⟩;have hx36:Ext H3 H6:=Low.toExt (hx4.trans hx5) k1 byO;have hd6:Dc H6 g (H3.length+1+1) be bl r b H3.length (H3.length+1) (sC (erI e) w.length) w (erI e) nl nl nl nl:=⟨k3,ha.mono hx36,(k1.2 _ byO byO).trans gw5,k2,hal.1,hal.2,byO,byO⟩;have hx6:Ext H H6:=Low.toExt hxG k1 byO;refine aD ?_;refine aV ?_;refine aA (ku byO hg byO byO byO hd6) ?_;rintro v H7 ⟨t,rfl,hlow,ht,htd⟩;have hx7:Ext H H7:=Low.toExt hx6 hlow byO;have hx37:Ext H3 H7:=Low.toExt hx36 hlow byO;have g1x:=g1h;have g1:=hx37.get g1h;have hl7:=hx37.1;clear g0h g1h g0 k2 k3 gw gw5 gx hd1;cases t with
 | false=>
  (try simp only[aC]);refine ah ?_ ?_<;>intro h
  case refine_2=>cases h
  clear h;have hl8:=Heap.get_lt g1;refine aD ?_;refine az ?_;exact⟨hx7.set byO,fun h=>absurd hin h,fun _ h=>absurd hlong h,fun _ _ _ _=>rfl,fun _ _ _ h=>absurd (ht.2 h) (by simp)⟩
 | true=>
  obtain⟨vv,vs,vl,vp,hd7⟩:=htd rfl;have hok7:=ht.1 rfl;have gd:=hd7.box;have gw:=hd7.word;have hfl:=lM g r b w (erI e);have hfl':(mb g r b w (erI e)).length<=w.length/\w.length<=(mb g r b w (erI e)).length:=byO;rw[hfl]at gd;clear hfl;generalize mb g r b w (erI e)=W at *;(try simp only[aC]);refine ah ?_ ?_<;>intro h
  ·cases h
  clear h;refine aD ?_;refine aT (fun i S H'=>Ext H7 H'/\∃vc bc,H7.length<=bc/\Own lo 1 H' vc bc (oQ (sel (fun i=>decide (co W i≠co w i)) i))/\∃(z:Nat->Value),S=[z 0,.slice (some ⟨xb,xo,xsp⟩) w.length cw,z 2,z 3,.pointer (some ⟨H.length+1,0,none⟩),z 5,z 6,.pointer (some ⟨H3.length+1+1,0,none⟩),z 8,vc,z 10,z 11,z 12,z 13,z 14,z 15,z 16,z 17,z 18,z 19,z 20,z 21,z 22,z 23,z 24,z 25,z 26,.int .i64 (w.length:Nat),.int .i64 (i:Nat),z 29,z 30,z 31]) w.length ?_ ?_ ?_ ?_
  ·exact⟨Ext.refl _,_,H7.length,Nat.le_refl _,Own.nil byO,aJ rfl⟩
  ·rintro i S H' hi ⟨hx,vc,bc,hbc,hown,z,rfl⟩
   exact⟨_,bD,by simp⟩
  ·rintro i S H8 hi ⟨hx8,vc,bc,hbc,hown,z,rfl⟩
   obtain⟨yb,yo,ysp,yc,ys,ee,gy,hat,hyl⟩:=ek (hw0.mono (hx7.trans hx8)) byO;cases ee;have hati:=hat i hi;have gd:=(hx8).get gd;have gw:=(hx8).get gw;have g1:=(hx8).get g1;have hs2:=bZ (fun i=>decide (co W i≠co w i)) i;have hs4:(sel (fun i=>decide (co W i≠co w i)) i).length<=i:=oZ _ i;have hl8:=hx8.1;have hcW:W.getD i 0=co W i:=rfl;clear hat;refine aD ?_;by_cases hz:co W i=co w i
   ·rw[if_neg (by simp[hz]),List.append_nil]at hs2
    rw[hs2];clear hs2;have hzv:(co W i).val=(co w i).val:=by rw[hz]
    clear hz;refine ah ?_ ?_<;>intro h
    ·simp at h
    clear h hzv hati;refine aD ?_;exact⟨hx8,vc,bc,hbc,hown,aJ ncM⟩
   ·rw[if_pos (by simp[hz])]at hs2
    have hsl:oQ (sel (fun i=>decide (co W i≠co w i)) (i+1))=oQ (sel (fun i=>decide (co W i≠co w i)) i)++[.int .i64 (i:Nat)]:=by rw[hs2];simp[oQ]
    clear hs2;have hzv:(co W i).val≠(co w i).val:=fun h=>hz (El.ext h);clear hz;refine ah ?_ ?_<;>intro h
    case refine_2=>simp at h;omega
    clear h hzv hati;refine aD ?_;refine aV ?_;refine gQ (c:=[.int .i64 (i:Nat)]) (hown.mono (Ext.app _ _)) (by simp;omega) byO byO (by rw[sF];omega) aH (by simp) rfl rfl ?_;rintro v' H9 hown9 hk9 hl9;have hE:=Ext.app H8 [some [Value.int .i64 (i:Nat)]];simp only[as₀,ak₀,an₀]at hown9;refine aD ?_;refine⟨hk9.ext (hx8.trans hE) byO,v',H8.length+(0+1),byO,?_,aJ ncM⟩;rw[hsl];exact hown9
  ·rintro S H8 ⟨hx8,vc,bc,hbc,hown,z,rfl⟩
   have gd:=(hx8).get gd;have gw:=(hx8).get gw;have g1:=(hx8).get g1;have hl8:=Heap.get_lt g1;have hsl:=Sl.ofOwn (enc:=Ea) hown;have hnw:=NewV.own hown hbc;have hl7':=hx37.1;have hl7:=Heap.get_lt (hx37.get g1x);have hl3x:=Heap.get_lt g1x;obtain⟨ac,nc,rfl⟩:=hsl.len;refine aD ?_;refine az ?_;refine⟨(hx7.trans hx8).set byO,fun h=>absurd hin h,fun _ h=>absurd hlong h,fun _ _ _ h=>absurd hok7 h,fun _ _ _ _=>⟨_,_,rfl,?_,?_,NewV.mk byO,NewV.mono hnw byO⟩⟩
   ·exact cK (by rw[aF byO];exact gw) byO
   ·exact eL hsl hnw (eN (Ext.refl _) _ _) hl7
end
end Go.Proofs.YtmnlgdpdgjbfgaaGreat
