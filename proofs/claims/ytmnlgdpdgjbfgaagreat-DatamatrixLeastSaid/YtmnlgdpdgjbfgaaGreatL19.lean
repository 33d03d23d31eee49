/- Lemmas. -/
import Derived.Test.YtmnlgdpdgjbfgaaGreatL10
import Derived.Test.YtmnlgdpdgjbfgaaGreatL18
set_option linter.all false
namespace Go.Proofs.YtmnlgdpdgjbfgaaGreat
open Go.Abs Go.RS
set_option maxRecDepth 20000
section
variable {f:FD}[OkC f]
structure IsEnc (g:El f)(r b:Nat)(d w:List (El f)):Prop where
 len:w.length=d.length+r
 dat:∀i,i<d.length->co w i=co d i
 cw:Fv (fun i=>pw g (b+i)) r w
theorem NJ{g:El f}(hg:Gn (OkC.ok (f:=f)) g){r b:Nat}(hc:CdOK f r b):∀i j,i<r->j<r->pw g (b+i)=pw g (b+j)->i=j:=by
 intro i j hi hj e;have h2:=qle (f:=f);rw[gU,gU]at e;have e2:=mul_left_cancel (dM (n9 hg) b) e;exact vA (n9 hg) (jS hg) i j (by have:=hc.r2;omega) (by have:=hc.r2;omega) e2
theorem DV{g:El f}(hg:Gn (OkC.ok (f:=f)) g){r b:Nat}(hc:CdOK f r b){d w w':List (El f)}(h:IsEnc g r b d w)(h':IsEnc g r b d w'):w=w':=by
 have hl:=h.len;have hl':=h'.len;refine GW hc.r1 (NJ hg hc) (fun i _=>dM (n9 hg) _) h.cw h'.cw byO byO (fun i hi=>?_);rw[h.dat i byO,h'.dat i byO]
theorem Ii{R:List (El f)}{r:Nat}(h:∀k,r<=k->co R k=0):(trim R).length<=r:=by
 apply Decidable.byContradiction;intro hc;have hne:trim R≠[]:=by intro e;rw[e]at hc;simp at hc
 exact sJ R hne (h _ byO)
open XRb
set_option maxHeartbeats 4000000 in
theorem DT{lo:Nat}{H:Heap}{g:El f}{v:Value}{d:List (El f)}{r b:Nat}(hlo:lo<=H.length)(hg:Gn (OkC.ok (f:=f)) g)(hc:CdOK f r b)(hd:SlE H v d)(hdl:d.length<=10000000) :
  Ev cp lo 29 [cdV f r b,v] H (fun v H'=>Ext H H'/\((0<d.length/\d.length+r<f.q/\∃vs w,v=.tuple #[vs,.int .i64 0]/\SlE H' vs w/\NewV H.length vs/\IsEnc g r b d w)\/(¬ (0<d.length/\d.length+r<f.q)/\v=.tuple #[.slice none 0 0,.int .i64 7]))):=by
 have h2:=qle (f:=f);have hd0:=hd;have hok:=AW hc;have hc0:=hc;obtain⟨c1,c2,c3⟩:=hc;obtain⟨ad,cd,rfl⟩:=hd.len;have hnr:((d.length:Int)+(r:Int))=((d.length+r:Nat):Int):=byO;unfold cdV;refine stG rfl rfl ?_;unfold No;simp only[kB,aC];refine aL ?_;refine bY ?_;refine aB (A7 (ch:=FD.ch f) (sz:=f.q) (po:=f.poly) (r:=r) (b:=b) (kN (OkC.ok (f:=f))) (qE (hd0.mono (Ext.app _ _))) (by rw[eZ];omega)) ?_;rintro v H1 ⟨hx1,t,rfl,ht⟩;have g0:H1.get H.length=some _:=hx1.get bJ;have hx1:=hx1.of_app;have htt:t=true:=ht.2 ⟨hok,jb d⟩;subst htt;(try simp only[aC]);refine bQ ?_ ?_<;>intro h
 ·cases h
 clear h;(try simp only[aC]);by_cases hd1:0<d.length;rotate_left
 ·have hdz:(d.length:Int)=0:=byO
  refine aW (t:=false) bJ lK si (fun h=>by cases h) (fun _=>?_);(try simp only[aC]);refine bQ ?_ ?_<;>intro h
  ·clear h
   refine aL ?_;refine bU ?_;exact⟨hx1,.inr ⟨byO,rfl⟩⟩
  ·cases h
 have hdz:¬ (d.length:Int)=0:=byO;refine aW (t:=true) bJ lK si (fun _=>⟨_,bJ,?_⟩) (fun h=>by cases h);refine aB (Re (ch:=FD.ch f) (sz:=f.q) (po:=f.poly) (r:=r) (b:=b) (n:=((d.length+r:Nat):Int))) ?_;rintro v H2 ⟨hx2,rfl⟩;have g0:=hx2.get g0;have hx2:=hx1.trans hx2;have hl2:=Heap.get_lt g0;by_cases hlen:d.length+r<f.q;rotate_left
 ·(try simp only[aC])
  refine bQ ?_ ?_<;>intro h
  ·clear h
   refine aL ?_;refine bU ?_;exact⟨hx2,.inr ⟨byO,rfl⟩⟩
  ·exfalso;simp at h;omega
 (try simp only[aC]);refine bQ ?_ ?_<;>intro h
 ·exfalso;simp at h;omega
 clear h;(try simp only[aC]);refine bY ?_;refine aB (Ge (f:=f) byO hg hc0) ?_;rintro v H3 ⟨hx3,vg,rfl,hgen⟩;have g0:=hx3.get g0;have hx3:=hx2.trans hx3;have hl3:=Heap.get_lt g0;have hgl:=qq (fun i=>pw g (b+i)) r;generalize hn:d.length+r=n at *;refine aL ?_;refine bQ ?_ ?_<;>intro h
 ·simp at h
 clear h;refine aL ?_;have hg0:H3.get H.length=some (cdC f r b):=g0;clear g0;generalize hG:H3++_=G at *;have g1:G.get H3.length=some (elL (tab n (fun _=>(0:El f)))):=by rw[<-hG,aG,jX]
 have hxG:Ext H3 G:=by rw[<-hG];exact Ext.app _ _
 clear hG;refine aa (fun i S H'=>Ext H3 H'/\H'.get H3.length=some (elL (tab n (fun k=>if n-i<=k then co d (n-1-k) else 0)))/\∃(z:Nat->Value),S=[z 0,.slice ad d.length cd,.pointer (some ⟨H.length,0,none⟩),.slice none 0 0,.int .i64 0,vg,z 6,.int .i64 (n:Nat),.slice (some ⟨H3.length,0,none⟩) n n,z 9,z 10,z 11,z 12,z 13,z 14,z 15,z 16,z 17,z 18,z 19,.slice ad d.length cd,.int .i64 (d.length:Nat),.int .i64 (i:Nat),z 23,z 24,z 25,z 26,z 27,z 28,z 29,z 30,z 31,z 32,z 33,z 34]) d.length ?_ ?_ ?_ ?_
 ·refine⟨hxG,?_,aJ rfl⟩
  rw[g1];refine congrArg (fun t=>some (elL t)) ?_;exact cT fun k _=>(if_neg byO).symm
 ·rintro i S H' hi ⟨hx,f1,z,rfl⟩
  exact⟨_,bJ,by simp⟩
 ·clear g1 hxG
  rintro i S H4 hi ⟨hx4,f1,z,rfl⟩;obtain⟨bd,od,sp,cap,xs,e,gx,hat,hxl⟩:=nC hd0 hd1;cases e;have gx:=(hx3.trans hx4).get gx;have hati:=hat i hi;have hidx:((n:Int)-1-(i:Int))=((n-1-i:Nat):Int):=byO;have hset:(tab n (fun k=>if n-i<=k then co d (n-1-k) else 0)).set (n-1-i) (co d i)=tab n (fun k=>if n-(i+1)<=k then co d (n-1-k) else 0):=by
   rw[lz];refine cT fun k hk=>?_;by_cases e:k=n-1-i
   ·rw[if_pos e,if_pos byO,e,show n-1-(n-1-i)=i by omega]
   ·rw[if_neg e]
    by_cases h2:n-i<=k
    ·rw[if_pos h2,if_pos byO]
    ·rw[if_neg h2,if_neg byO]
  have hlen2:(tab n (fun k=>if n-i<=k then co d (n-1-k) else 0)).length<=n/\n<=(tab n (fun k=>if n-i<=k then co d (n-1-k) else 0)).length:=by rw[eC];omega
  generalize tab n (fun k=>if n-i<=k then co d (n-1-k) else 0)=T at *;have hl4:=Heap.get_lt f1;clear hat;refine aL ?_;exact⟨hx4.set (Nat.le_refl _),by rw[aF byO],aJ ncM⟩
 clear g1 hxG;rintro S H4 ⟨hx4,f1,z,rfl⟩;have hST:tab n (fun k=>if n-d.length<=k then co d (n-1-k) else 0)=tab n (fun k=>if r<=k/\k<n then co d (n-1-k) else 0):=by
  refine cT fun k hk=>?_;by_cases h:r<=k
  ·rw[if_pos byO,if_pos ⟨h,hk⟩]
  ·rw[if_neg byO,if_neg byO]
 rw[hST]at f1;clear hST;have hcoS:∀k,co (tab n (fun k=>if r<=k/\k<n then co d (n-1-k) else 0)) k=if r<=k/\k<n then co d (n-1-k) else 0:=by
  intro k;rw[kl];split
  ·rfl
  ·rw[if_neg byO]
 have hSl:=eC n (fun k=>if r<=k/\k<n then co d (n-1-k) else 0);generalize tab n (fun k=>if r<=k/\k<n then co d (n-1-k) else 0)=S0 at *;have hg4:=hx4.get hg0;have hl4:=(hx3.trans hx4).1;unfold cdC at hg4;(try simp only[aC]);refine bY ?_;refine cU (Fb (Nat.le_refl _) (iH (sp:=none) f1 hSl) byO) ?_;rintro v H5 ⟨hx5,hs5⟩;have hg5:=hx5.get hg4;have hx5:=hx4.trans hx5;have hl5:=(hx3.trans hx5).1;have htl:=pX S0;clear hg4;(try simp only[aC]);refine bY ?_;refine aB (GX byO hg hs5 (hgen.mono hx5) ⟨byO,?_⟩ ⟨by rw[hgl];omega,.inr ?_⟩ (by rw[hgl];omega)) ?_
 ·by_cases e:trim S0=[]
  ·left;rw[e];rfl
  ·right;rw[nS];exact sJ S0 e
 ·rw[hgl,uO,Nat.add_sub_cancel,De];exact rP
 rintro v H6 ⟨hx6,vt,vr,R,Q,rfl,hsR,hdiv⟩;rw[hgl,Nat.add_sub_cancel]at hdiv;have hg6:=hx6.get hg5;have hx6:=hx5.trans hx6;have hl6:=(hx3.trans hx6).1;have hRl:=Ii hdiv.top;have hsR0:=hsR;obtain⟨aR,cR,rfl⟩:=hsR.len;clear hg5;refine aL ?_;refine bQ ?_ ?_<;>intro h
 ·simp at h
 clear h;refine aL ?_;generalize hG:H6++_=G at *;have g1:G.get H6.length=some (elL (List.replicate n (0:El f))):=by rw[<-hG,aG]
 have hxG:Ext H6 G:=by rw[<-hG];exact Ext.app _ _
 clear hG;have hl7:=Heap.get_lt g1;refine bY ?_;refine Ik byO g1 (by simp) (hd0.mono (hx3.trans (hx6.trans hxG))) (by simp;omega) ?_;intro w0;rw[vY d byO];generalize hG2:G.set H6.length _=G2;have g1:Heap.get G2 H6.length=some (elL (tab n (co d))):=by rw[<-hG2,aF byO]
 have hxG:Ext H6 G2:=by rw[<-hG2];exact hxG.set (Nat.le_refl _)
 clear hG2 hl7;refine aL ?_;refine aa (fun i S H'=>Ext H6 H'/\H'.get H6.length=some (elL (tab n (fun k=>if n-i<=k then-co R (n-1-k) else co d k)))/\∃(z:Nat->Value),S=[z 0,z 1,.pointer (some ⟨H.length,0,none⟩),.slice none 0 0,.int .i64 0,z 5,z 6,.int .i64 (n:Nat),z 8,z 9,z 10,z 11,.slice (some ⟨H6.length,0,none⟩) n n,z 13,z 14,z 15,z 16,z 17,z 18,z 19,z 20,z 21,z 22,z 23,z 24,z 25,z 26,z 27,.slice aR (trim R).length cR,.int .i64 ((trim R).length:Nat),.int .i64 (i:Nat),z 31,z 32,z 33,z 34]) (trim R).length ?_ ?_ ?_ ?_
 ·refine⟨hxG,?_,aJ rfl⟩
  rw[g1];refine congrArg (fun t=>some (elL t)) ?_;exact cT fun k hk=>(if_neg byO).symm
 ·rintro i S H' hi ⟨hx,f1,z,rfl⟩
  exact⟨_,bJ,by simp⟩
 ·clear g1 hxG
  rintro i S H7 hi ⟨hx7,f1,z,rfl⟩;obtain⟨bd,od,sp,cap,xs,e,gx,hat,hxl⟩:=nC hsR0 byO;cases e;have gx:=hx7.get gx;have hati:=hat i hi;rw[nS]at hati;have hg7:=hx7.get hg6;have hidx:((n:Int)-1-(i:Int))=((n-1-i:Nat):Int):=byO;have hset:(tab n (fun k=>if n-i<=k then-co R (n-1-k) else co d k)).set (n-1-i) (- co R i)=tab n (fun k=>if n-(i+1)<=k then-co R (n-1-k) else co d k):=by
   rw[lz];refine cT fun k hk=>?_;by_cases e:k=n-1-i
   ·rw[if_pos e,if_pos byO,e,show n-1-(n-1-i)=i by omega]
   ·rw[if_neg e]
    by_cases h2:n-i<=k
    ·rw[if_pos h2,if_pos byO]
    ·rw[if_neg h2,if_neg byO]
  have hlen2:(tab n (fun k=>if n-i<=k then-co R (n-1-k) else co d k)).length<=n/\n<=(tab n (fun k=>if n-i<=k then-co R (n-1-k) else co d k)).length:=by rw[eC];omega
  generalize tab n (fun k=>if n-i<=k then-co R (n-1-k) else co d k)=T at *;have hneg:uW f 0 (co R i).val=(- co R i).val:=by
   rw[zp (OkC.ok (f:=f)) byO (co R i).lt];show((0:El f)+- co R i).val=_;rw[zero_add]
  clear hat;refine aL ?_;refine bY ?_;refine aB (Ky (f:=f) (OkC.ok (f:=f)) (a:=0) (b:=(co R i).val) byO (co R i).lt) ?_;rintro v H8 ⟨hx8,rfl⟩;rw[hneg];have f1:=hx8.get f1;have hx8:=hx7.trans hx8;have hl8:=Heap.get_lt f1;clear hneg;refine aL ?_;refine bQ ?_ ?_<;>intro h
  ·simp at h
  clear h;refine aL ?_;exact⟨hx8.set (Nat.le_refl _),by rw[aF byO],aJ ncM⟩
 ·rintro S H7 ⟨hx7,f1,z,rfl⟩
  refine aL ?_;refine bU ?_;refine⟨hx3.trans (hx6.trans hx7),.inl ⟨hd1,hlen,_,_,rfl,iH f1 (eC _ _),NewV.mk byO,?_⟩⟩;have hw:tab n (fun k=>if n-(trim R).length<=k then-co R (n-1-k) else co d k)=tab n (fun k=>if k<d.length then co d k else-co R (n-1-k)):=by
   refine cT fun k hk=>?_;by_cases h1:k<d.length
   ·rw[if_pos h1,if_neg byO]
   ·rw[if_neg h1]
    by_cases h3:n-(trim R).length<=k
    ·rw[if_pos h3]
    ·rw[if_neg h3,kj (l:=d) byO,<-nS R,kj (l:=trim R) byO,neg_zero]
  rw[hw];refine⟨by rw[eC];omega,fun i hi=>by rw[kl,if_pos byO,if_pos hi],?_⟩;refine GY (n:=n) (data:=d) (S:=S0) (R:=R) (Q:=Q) (N:=(trim S0).length) byO hcoS (fun k=>?_) hdiv.top hdiv.qz (eC _ _) (fun i hi=>by rw[kl,if_pos byO,if_pos hi]) (fun k hk=>?_)
  ·rw[<-nS S0,hdiv.eq k,uO]
  ·rw[kl,if_pos byO,if_neg byO,show n-1-(n-1-k)=k by omega]
end
section
variable {f:FD}[OkC f]
open XRb
end
section
variable {f:FD}[OkC f]
def dcC(f:FD)(be bl r b n bw bE s:Nat)(vv vs vl vp:Value):List Value:=
 [.int .i64 (FD.ch f:Nat),.int .i64 (f.q:Nat),.slice (some ⟨be,0,none⟩) (f.q-1) (f.q-1),.slice (some ⟨bl,0,none⟩) f.q f.q,
  .int .i64 (FD.ch f:Nat),.int .i64 (f.q:Nat),.int .i64 (f.poly:Nat),.int .i64 r,.int .i64 b,
  .slice (some ⟨bw,0,some 1⟩) n n,.slice (some ⟨bE,0,none⟩) n n,.int .i64 s,vv,vs,vl,vp]
def erL(n:Nat)(er:Nat->Bool):List Value:=(List.range n).map fun i=>.bool (er i)
theorem Ga(n:Nat)(er:Nat->Bool):(erL n er).length=n:=by simp[erL]
theorem L8{n:Nat}{er:Nat->Bool}{i:Nat}(h:i<n):(erL n er)[i]?=some (.bool (er i)):=by simp[erL,h]
structure Dc (H:Heap)(g:El f)(d be bl r b bw bE s:Nat)(w:List (El f))(er:Nat->Bool)(vv vs vl vp:Value):Prop where
 box:H.get d=some (dcC f be bl r b w.length bw bE s vv vs vl vp)
 ar:ArH H g be bl
 word:H.get bw=some (elL w)
 eras:H.get bE=some (erL w.length er)
 h1:be<bw
 h2:bl<bw
 h3:bw<bE
 h4:bE<d
variable {lo:Nat}{H:Heap}{g:El f}{d be bl r b bw bE s:Nat}{w:List (El f)}{er:Nat->Bool}{vv vs vl vp:Value}
theorem Dc.mono{H':Heap}(h:Dc H g d be bl r b bw bE s w er vv vs vl vp)(e:Ext H H'):Dc H' g d be bl r b bw bE s w er vv vs vl vp:=
 ⟨e.get h.box,h.ar.mono e,e.get h.word,e.get h.eras,h.h1,h.h2,h.h3,h.h4⟩
theorem Dc.keep{H':Heap}{vv' vs' vl' vp':Value}(h:Dc H g d be bl r b bw bE s w er vv vs vl vp)(e:Keep d H H')(hb:H'.get d=some (dcC f be bl r b w.length bw bE s vv' vs' vl' vp')):Dc H' g d be bl r b bw bE s w er vv' vs' vl' vp':=by
 have h1:=h.h1;have h2:=h.h2;have h3:=h.h3;have h4:=h.h4;exact⟨hb,h.ar.keep e byO byO,e.get h.word byO,e.get h.eras byO,h1,h2,h3,h4⟩
theorem Dw{H H':Heap}(h:Ext H H')(d:Nat)(x:Option (List Value)):Keep d H (H'.set d x):=⟨by simpa using h.1,fun i hi hne=>by rw[aI (Ne.symm hne)];exact h.2 i hi⟩
theorem mj{b:Nat}{A B C:Heap}(h:Keep b A B)(k:Keep b B C):Keep b A C:=⟨Nat.le_trans h.len k.len,fun i hi hne=>(k.eq i (bc₀ hi h.len) hne).trans (h.eq i hi hne)⟩
theorem rA{b:Nat}{A B:Heap}(h:Ext A B):Keep b A B:=⟨h.1,fun i hi _=>h.2 i hi⟩
namespace XSa
def xtr:=zzi @Int.cast_ofNat_Int (zzi @fv.eq_1 (zzi @fvf.eq_1 (zzi @ite_self.{1} (zzi @lA (zzi @kz (zzi @ky (zzi @cdC.eq_1 (zzi @arC.eq_1 (zzi @dcC.eq_1 (zzi @kt (zzi @eg (zzi @gH (zzi @jN (zzi @L8 @Ga))))))))))))))
end XSa
open XSa
end
open Go.Abs Go.RS
section
variable {f:FD}[OkC f]{lo:Nat}{H:Heap}{g:El f}{d be bl r b bw bE s:Nat}{w:List (El f)}{er:Nat->Bool}{vv vs vl vp:Value}
open XSa
theorem B5{d:Nat}{H A:Heap}(h:Keep d H A)(x:Option (List Value)):Keep d H (A.set d x):=mj h (Dw (Ext.refl _) d x)
end
end Go.Proofs.YtmnlgdpdgjbfgaaGreat
