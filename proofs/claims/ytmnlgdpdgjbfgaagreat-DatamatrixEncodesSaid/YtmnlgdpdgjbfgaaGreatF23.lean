/- Lemmas. -/
import Derived.Test.YtmnlgdpdgjbfgaaGreatF10
import Derived.Test.YtmnlgdpdgjbfgaaGreatF22
set_option linter.all false
namespace Go.Proofs.YtmnlgdpdgjbfgaaGreat
open Go.Abs Go.RS
set_option maxRecDepth 20000
section
variable {f:FD}[OkC f]
open XRb
set_option maxHeartbeats 4000000 in
theorem FE{lo:Nat}{H:Heap}{g:El f}{v:Value}{d:List (El f)}{r b:Nat}(hlo:lo<=H.length)(hg:Gn (OkC.ok (f:=f)) g)(hc:CdOK f r b)(hd:SlE H v d)(hdl:d.length<=10000000) :
  Ev cp lo 33 [cdV f r b,v] H (fun v H'=>Ext H H'/\((0<d.length/\d.length+r<f.q/\∃vs w,v=.tuple #[vs,.int .i64 0]/\SlE H' vs w/\NewV H.length vs/\IsEnc g r b d w)\/(¬ (0<d.length/\d.length+r<f.q)/\v=.tuple #[.slice none 0 0,.int .i64 7]))):=by
 have h2:=qle (f:=f);have hd0:=hd;have hok:=wD hc;have hc0:=hc;obtain⟨c1,c2,c3⟩:=hc;have hcopy:∀(G:Heap) (R:Value->Heap->Prop) (z:List Value),Ext H G->(∀v' H',Own lo 1 H' v' G.length (elL d)->Ext G H'->R v' H')->wpH cp lo (.app 1 z) [.slice none 0 0,v] G R:=by
  intro G R z hG k;rcases hd with ⟨rfl,rfl⟩|⟨b,o,sp,cap,xs,rfl,hb,hx,hxl,_⟩
  ·exact n8 (k _ _ (Own.nil (Nat.le_trans hlo hG.1)) (Ext.refl _))
  ·exact kL (Nat.le_trans hlo hG.1) (hG.get hb) hxl hx byO k
 obtain⟨ad,cd,rfl⟩:=hd0.len;unfold cdV;refine stG rfl rfl ?_;unfold QH;simp only[kB,aD];refine aA ?_;refine aT ?_;refine aC (Gh (ch:=FD.ch f) (sz:=f.q) (po:=f.poly) (r:=r) (b:=b) byO) ?_;rintro v H1 ⟨hx1,t,rfl,ht⟩;have g0:H1.get H.length=some _:=hx1.get aN;have hx1:=hx1.of_app;have htt:t=true:=ht.2 hok;subst htt;(try simp only[aD]);refine aU (t:=true) aN dP e9 (fun _=>⟨_,aN,?_⟩) (fun h=>by cases h);refine aC (D4 (ch:=FD.ch f) (sz:=f.q) (po:=f.poly) (oz (hd0.mono hx1)) (by rw[dX];omega)) ?_;rintro v H2 ⟨hx2,rfl⟩;rw[gj];have g0:=hx2.get g0;have hx2:=hx1.trans hx2;have hl2:=Heap.get_lt g0;(try simp only[aD]);refine aP ?_ ?_<;>intro h
 ·cases h
 clear h;by_cases hlen:0<d.length/\d.length+r<f.q;rotate_left
 ·(try simp only[aD])
  refine aP ?_ ?_<;>intro h
  ·clear h
   refine aA ?_;refine aK ?_;exact⟨hx2,.inr ⟨hlen,rfl⟩⟩
  ·exfalso;simp at h;omega
 (try simp only[aD]);refine aP ?_ ?_<;>intro h
 ·exfalso;simp at h;omega
 clear h;refine bF ?_;refine aC (zx byO hg r b byO byO) ?_;rintro v H3 ⟨hx3,hgen⟩;have g0:=hx3.get g0;have hx3:=hx2.trans hx3;have hl3:=Heap.get_lt g0;have hgl:=jv (fun i=>pw g (b+i)) r;obtain⟨bg,og,sg,capg,xg,eg,gg,hag,hxg⟩:=gV hgen (by rw[hgl];omega);subst eg;rw[hgl]at *;simp only[ny]at hag;refine aA ?_;refine aT ?_;refine hcopy H3 _ _ hx3 ?_;intro v6 H4 hown hx4;clear hcopy;have hx4':=hx4;have g03:=g0;have gg:=hx4.get gg;have g0:=hx4.get g0;have hx4:=hx3.trans hx4;have hl4:=hx4.1;have hl34:=Heap.get_lt gg;refine aA ?_;generalize hG:H4++_=G at *;have g1:G.get H4.length=some (elL (tab r (fun _=>(0:El f)))):=by rw[<-hG,aF,fJ]
 have hxG:Ext H4 G:=by rw[<-hG];exact Ext.app _ _
 clear hG;have hown:=hown;have hbo:H3.length<H4.length\/d.length=0:=by
  obtain⟨_,⟨_,e⟩|⟨n,_,_,_,hg⟩⟩:=hown
  ·right
   have:=congrArg List.length e;rw[ea]at this;simpa using this
  ·left;exact Heap.get_lt hg
 refine aS (fun i S H'=>Ext H4 H'/\∃rest:List (El f),H'.get H4.length=some (elL rest)/\rest.length=r/\(∀k,k<r->dS rest (pw g (b+k))=pw (pw g (b+k)) r*dS (d.take i) (pw g (b+k)))/\∃(z:Nat->Value),S=[z 0,.slice ad d.length cd,.pointer (some ⟨H.length,0,none⟩),.slice none 0 0,.int .i64 0,.slice (some ⟨bg,og,sg⟩) (r+1) capg,v6,.slice (some ⟨H4.length,0,none⟩) r r,.int .i64 (i:Nat),z 9,z 10,z 11,z 12,z 13,z 14,z 15,z 16,z 17,z 18,z 19,z 20,z 21,z 22,z 23,z 24,z 25,z 26,z 27,z 28,z 29]) d.length ?_ ?_ ?_ ?_
 ·refine⟨hxG,_,g1,bp _ _,fun k hk=>?_,aH rfl⟩
  rw[mH,bp,ek (fun j hj=>by rw[iB,if_pos hj,zero_mul])];show 0=_*0;rw[mul_zero]
 ·rintro i S H' hi ⟨hx,rest,f1,hrl,hinv,z,rfl⟩
  exact⟨_,aN,by simp⟩
 ·clear g1 hxG
  rintro i S H5 hi ⟨hx5,rest,f1,hrl,hinv,z,rfl⟩;obtain⟨bd,od,sp,cap,xs,e,gx,hat,hxl⟩:=gV hd0 hlen.1;cases e;have gx:=(hx4.trans hx5).get gx;have f0:=hx5.get g0;have hati:=hat i hi;have hrl2:rest.length<=r/\r<=rest.length:=byO;have hr0:rest.getD 0 0=co rest 0:=rfl;have hl5:=(hx4.trans hx5).1;clear hat;refine bF ?_;refine aC (MF (co d i) (co rest 0)) ?_;rintro v H6 ⟨hx6,rfl⟩;have f1:=hx6.get f1;have hx6:=hx5.trans hx6;generalize hq:co d i+co rest 0=q at *;clear f0 gx hati hr0;refine aA ?_;refine aS (fun k S H'=>Ext H4 H'/\H'.get H4.length=some (elL (tab r (fun j=>if j<k then co rest (j+1)-q*gp (fun i=>pw g (b+i)) r (r-1-j) else co rest j)))/\∃(z:Nat->Value),S=[z 0,.slice (some ⟨bd,od,sp⟩) d.length cd,.pointer (some ⟨H.length,0,none⟩),.slice none 0 0,.int .i64 0,.slice (some ⟨bg,og,sg⟩) (r+1) capg,v6,.slice (some ⟨H4.length,0,none⟩) r r,.int .i64 (i:Nat),.int .i64 (q.val:Nat),.int .i64 (k:Nat),z 11,z 12,z 13,z 14,z 15,z 16,z 17,z 18,z 19,z 20,z 21,z 22,z 23,z 24,z 25,z 26,z 27,z 28,z 29]) r ?_ ?_ ?_ ?_
  ·refine⟨hx6,?_,aH rfl⟩
   rw[f1];refine congrArg (fun t=>some (elL t)) ?_;exact Aj hrl fun k _=>(if_neg byO).symm
  ·rintro k S H' hk ⟨hx,f1,z,rfl⟩
   have f0:=hx.get g0;exact⟨_,aN,by simp⟩
  ·clear f1 hx6 hx5 hl5
   rintro k S H5 hk ⟨hx5,f1,z,rfl⟩;have f0:=hx5.get g0;have fg:=hx5.get gg;have hagk:=hag (r-1-k) byO;have hget:k+1<r->(tab r (fun j=>if j<k then co rest (j+1)-q*gp (fun i=>pw g (b+i)) r (r-1-j) else co rest j)).getD (k+1) 0=co rest (k+1):=by
    intro h;rw[ll byO,if_neg byO]
   have hset:(tab r (fun j=>if j<k then co rest (j+1)-q*gp (fun i=>pw g (b+i)) r (r-1-j) else co rest j)).set k (co rest (k+1)-q*gp (fun i=>pw g (b+i)) r (r-1-k))=tab r (fun j=>if j<k+1 then co rest (j+1)-q*gp (fun i=>pw g (b+i)) r (r-1-j) else co rest j):=by
    rw[j6];refine bM fun j hj=>?_;by_cases e:j=k
    ·rw[if_pos e,if_pos byO,e]
    ·rw[if_neg e]
     by_cases h3:j<k
     ·rw[if_pos h3,if_pos byO]
     ·rw[if_neg h3,if_neg byO]
   have hlen2:(tab r (fun j=>if j<k then co rest (j+1)-q*gp (fun i=>pw g (b+i)) r (r-1-j) else co rest j)).length<=r/\r<=(tab r (fun j=>if j<k then co rest (j+1)-q*gp (fun i=>pw g (b+i)) r (r-1-j) else co rest j)).length:=by rw[bp];omega
   generalize tab r (fun j=>if j<k then co rest (j+1)-q*gp (fun i=>pw g (b+i)) r (r-1-j) else co rest j)=T at *;have hidx:((r:Int)-1-(k:Int))=((r-1-k:Nat):Int):=byO;have hk1:((k:Int)+1)=((k+1:Nat):Int):=byO;have hl5:=Heap.get_lt f1;refine aA ?_;refine eG (fun S H'=>H5=H'/\∃z0 z12 z13 z14 z15 z16 z17 z18 z19 z20 z21 z22 z23 z24 z25 z26 z27 z28 z29,S=[z0,.slice (some ⟨bd,od,sp⟩) d.length cd,.pointer (some ⟨H.length,0,none⟩),.slice none 0 0,.int .i64 0,.slice (some ⟨bg,og,sg⟩) (r+1) capg,v6,.slice (some ⟨H4.length,0,none⟩) r r,.int .i64 (i:Nat),.int .i64 (q.val:Nat),.int .i64 (k:Nat),.int .i64 ((co rest (k+1)).val:Nat),z12,z13,z14,z15,z16,z17,z18,z19,z20,z21,z22,z23,z24,z25,z26,z27,z28,z29]) ?_ ?_
   ·refine aP ?_ ?_<;>intro h
    ·have hkr:k+1<r:=by simp at h;omega
     clear h;have hget:=hget hkr;refine aA ?_;exact⟨by trivial,_,_,_,_,_,_,_,_,_,_,_,_,_,_,_,_,_,_,_,rfl⟩
    ·have hkr:r<=k+1:=by simp at h;omega
     clear h;(try simp only[aD]);exact⟨by trivial,_,_,_,_,_,_,_,_,_,_,_,_,_,_,_,_,_,_,_,by rw[iL (l:=rest) byO];rfl⟩
   rintro S H' ⟨rfl,z0,z12,z13,z14,z15,z16,z17,z18,z19,z20,z21,z22,z23,z24,z25,z26,z27,z28,z29,rfl⟩;clear hget hk1;refine aA ?_;refine aT ?_;refine bS (pb q (gp (fun i=>pw g (b+i)) r (r-1-k))) ?_;rintro v H6 ⟨hx6,rfl⟩;have f1:=hx6.get f1;have hx6:=hx5.trans hx6;refine bF ?_;refine aC (A8 (co rest (k+1)) (q*gp (fun i=>pw g (b+i)) r (r-1-k))) ?_;rintro v H7 ⟨hx7,rfl⟩;have f1:=hx7.get f1;have hx7:=hx6.trans hx7;have hl7:=Heap.get_lt f1;clear hidx hagk;refine aA ?_;exact⟨hx7.set (Nat.le_refl _),by rw[aG byO],aH ncM⟩
  ·clear f1 hx6 hx5 hl5
   rintro S H5 ⟨hx5,f1,z,rfl⟩;have hTT:tab r (fun j=>if j<r then co rest (j+1)-q*gp (fun i=>pw g (b+i)) r (r-1-j) else co rest j)=tab r (fun j=>co rest (j+1)-q*gp (fun i=>pw g (b+i)) r (r-1-j)):=bM fun j hj=>if_pos hj;rw[hTT]at f1;refine aA ?_;refine⟨hx5,_,f1,bp _ _,fun k hk=>?_,aH ncM⟩;rw[DG (rt:=fun i=>pw g (b+i)) hk hrl (bp _ _) hq.symm (fun j hj=>by rw[iB,if_pos hj]),hinv k hk,sB hi];exact(show((((pw (pw g (b+k)) r)*(dS (d.take i) (pw g (b+k))))*(pw g (b+k)))+((co d i)*(pw (pw g (b+k)) r)))=((pw (pw g (b+k)) r)*(((dS (d.take i) (pw g (b+k)))*(pw g (b+k)))+(co d i))) from cY [(pw (pw g (b+k)) r),(dS (d.take i) (pw g (b+k))),(pw g (b+k)),(co d i)] (.add (.mul (.mul (.v 0) (.v 1)) (.v 2)) (.mul (.v 3) (.v 0))) (.mul (.v 0) (.add (.mul (.v 1) (.v 2)) (.v 3))) rfl)
 ·clear g1 hxG
  rintro S H5 ⟨hx5,rest,f1,hrl,hinv,z,rfl⟩;rw[List.take_length]at hinv;have hcw:=Fq (rt:=fun i=>pw g (b+i)) (data:=d) hrl hinv;have hown:=hown.mono hx5;have hl5:=Heap.get_lt f1;have hrl2:rest.length<=r/\r<=rest.length:=byO;have hbo:H3.length<H4.length:=byO;refine aA ?_;refine aS (fun k S H'=>Ext H3 H'/\H'.get H4.length=some (elL rest)/\∃vo bo,H3.length<=bo/\bo≠H4.length/\Own lo 1 H' vo bo (elL (d++tab k (fun j=>- co rest j)))/\∃(z:Nat->Value),S=[z 0,z 1,.pointer (some ⟨H.length,0,none⟩),.slice none 0 0,.int .i64 0,z 5,vo,.slice (some ⟨H4.length,0,none⟩) r r,z 8,z 9,z 10,z 11,.int .i64 (k:Nat),z 13,z 14,z 15,z 16,z 17,z 18,z 19,z 20,z 21,z 22,z 23,z 24,z 25,z 26,z 27,z 28,z 29]) r ?_ ?_ ?_ ?_
  ·refine⟨hx4'.trans hx5,f1,v6,H3.length,Nat.le_refl _,byO,?_,aH rfl⟩
   simpa[tab]using hown
  ·rintro k S H' hk ⟨hx,f1,vo,bo,hbo,hbo2,hown,z,rfl⟩
   have f0:=hx.get g03;exact⟨_,aN,by simp⟩
  ·clear f1 hx5 hown hl5
   rintro k S H5 hk ⟨hx5,f1,vo,bo,hbo',hbo2,hown,z,rfl⟩;have f0:=hx5.get g03;have hrk:rest.getD k 0=co rest k:=rfl;have hl5:=(hx3.trans hx5).1;have hlf:=Heap.get_lt f1;refine bF ?_;refine aC (A8 (0:El f) (co rest k)) ?_;rintro v H6 ⟨hx6,rfl⟩;rw[pB];have f1:=hx6.get f1;have hown:=hown.mono hx6;have hx6:=hx5.trans hx6;have hl6:=(hx3.trans hx6).1;have hlf6:=Heap.get_lt f1;have hml:(d++tab k (fun j=>- co rest j)).length=d.length+k:=by rw[as₀,bp]
   clear hrk;refine aA ?_;refine aT ?_;refine di (c:=[pL (- co rest k)]) (hown.mono (Ext.app _ _)) (by simp;omega) byO byO (by rw[ea,hml];omega) aF (by simp) rfl rfl ?_;rintro v' H7 hown7 hk7 hl7;have hE:=Ext.app H6 [some [Value.int .i64 ((- co rest k).val:Nat)]];have hx7:=hk7.ext (hx6.trans hE) byO;have f1:=hk7.get (hE.get f1) (fun e=>hbo2 e.symm);simp only[as₀,ak₀,an₀]at hown7;clear hml;refine aA ?_;refine⟨hx7,f1,_,H6.length+(0+1),by have:=hx6.1;omega,byO,?_,aH ncM⟩;rw[yx,<-ba₀,xj];exact hown7
  ·rintro S H6 ⟨hx6,f1,vo,bo,hbo',hbo2,hown,z,rfl⟩
   refine aA ?_;refine aK ?_;refine⟨hx3.trans hx6,.inl ⟨hlen.1,hlen.2,_,_,rfl,Sl.ofOwn hown,NewV.own hown (Nat.le_trans hx3.1 hbo'),by rw[as₀,bp],fun i hi=>?_,hcw⟩⟩;unfold co;rw[au₀,ax₀ hi,<-au₀]
end
section
variable {f:FD}[OkC f]
def dcC(f:FD)(be bl r b n bw bE s:Nat)(vv vs vl vp:Value):List Value:=
 [.int .i64 (FD.ch f:Nat),.int .i64 (f.q:Nat),.slice (some ⟨be,0,none⟩) (f.q-1) (f.q-1),.slice (some ⟨bl,0,none⟩) f.q f.q,
  .int .i64 (FD.ch f:Nat),.int .i64 (f.q:Nat),.int .i64 (f.poly:Nat),.int .i64 r,.int .i64 b,
  .slice (some ⟨bw,0,some 1⟩) n n,.slice (some ⟨bE,0,none⟩) n n,.int .i64 s,vv,vs,vl,vp]
def erL(n:Nat)(er:Nat->Bool):List Value:=(List.range n).map fun i=>.bool (er i)
theorem I1(n:Nat)(er:Nat->Bool):(erL n er).length=n:=by simp[erL]
theorem N6{n:Nat}{er:Nat->Bool}{i:Nat}(h:i<n):(erL n er)[i]?=some (.bool (er i)):=by simp[erL,h]
variable {lo:Nat}{H:Heap}{g:El f}{d be bl r b bw bE s:Nat}{w:List (El f)}{er:Nat->Bool}{vv vs vl vp:Value}
theorem yD{H H':Heap}(h:Ext H H')(d:Nat)(x:Option (List Value)):Keep d H (H'.set d x):=⟨by simpa using h.1,fun i hi hne=>by rw[aI (Ne.symm hne)];exact h.2 i hi⟩
theorem kg{b:Nat}{A B C:Heap}(h:Keep b A B)(k:Keep b B C):Keep b A C:=⟨Nat.le_trans h.len k.len,fun i hi hne=>(k.eq i (bd₀ hi h.len) hne).trans (h.eq i hi hne)⟩
theorem lT{b:Nat}{A B:Heap}(h:Ext A B):Keep b A B:=⟨h.1,fun i hi _=>h.2 i hi⟩
namespace XSa
def xtr:=zzi @Int.cast_ofNat_Int (zzi @fv.eq_1 (zzi @fvf.eq_1 (zzi @ite_self.{1} (zzi @kf (zzi @ke (zzi @kc (zzi @cdC.eq_1 (zzi @arC.eq_1 (zzi @dcC.eq_1 (zzi @nI (zzi @ea (zzi @jB (zzi @kx (zzi @N6 @I1))))))))))))))
end XSa
end
open Go.Abs Go.RS
section
variable {f:FD}[OkC f]{lo:Nat}{H:Heap}{g:El f}{d be bl r b bw bE s:Nat}{w:List (El f)}{er:Nat->Bool}{vv vs vl vp:Value}
theorem uS{d:Nat}{H A:Heap}(h:Keep d H A)(x:Option (List Value)):Keep d H (A.set d x):=kg h (yD (Ext.refl _) d x)
end
section
variable {f:FD}[OkC f]{lo:Nat}{H:Heap}{g:El f}{d be bl r b bw bE s:Nat}{w:List (El f)}{er:Nat->Bool}{vv vs vl vp:Value}
def nl:Value:=.slice none 0 0
end
end Go.Proofs.YtmnlgdpdgjbfgaaGreat
