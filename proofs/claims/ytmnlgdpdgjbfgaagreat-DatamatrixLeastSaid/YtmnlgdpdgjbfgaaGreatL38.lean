/- Lemmas. -/
import Derived.Test.YtmnlgdpdgjbfgaaGreatL37
set_option linter.all false
namespace Go.Proofs.YtmnlgdpdgjbfgaaGreat
open Go.Abs
set_option maxRecDepth 20000
theorem ta(p:List UInt8)(i:Nat):(gZ p i).length<=1:=by unfold gZ;split<;>simp
theorem wZ(p:List UInt8)(i:Nat):(nh p i).length<=1:=by unfold nh;split<;>simp
theorem tK(p:List UInt8)(i:Nat):(j8 p i).length<=1:=by unfold j8;split<;>simp
theorem B8(i k:Nat):kf i (k+1)=kf i k++[⟨wX (k+1),-1,-1,1,⟨i,k+1,0,0,false⟩⟩]:=by
 unfold kf;rw[List.range_succ,List.map_append];rfl
theorem zB(i k:Nat):jK i (k+1)=jK i k++[cV i (k+1)]:=by
 unfold jK;rw[List.range_succ,List.map_append];rfl
section
variable {lo:Nat}{H:Heap}{v:Value}{p:List UInt8}
theorem OwnG.away{n b c A:Nat}{w:Value}{X:List Value}(h:OwnG lo n H w b X)(hb:A<=b)(hc:H.length<=c)(hA:A<=c)(hlo:lo<=c):∃b',(A<=b'/\b'≠c)/\OwnG lo n H w b' X:=by
 rcases h with ⟨h1,h|⟨m,h2,h3,h4,h5⟩⟩|⟨h1,m,h2,h3,h4,h5⟩
 ·exact⟨c+1,byO,.inl ⟨byO,.inl h⟩⟩
 ·have:=Heap.get_lt h5
  exact⟨b,byO,.inl ⟨h1,.inr ⟨m,h2,h3,h4,h5⟩⟩⟩
 ·have:=Heap.get_lt h5
  exact⟨b,byO,.inr ⟨h1,m,h2,h3,h4,h5⟩⟩
open XYe
theorem Ia{i:Nat}(hv:SlU H v p)(hi:i<=p.length)(hl:p.length<=4096)(hlo:lo<=H.length):Ev cp lo 146 [v,aA i] H (fun r H'=>Ext H H'/\∃b,H.length<=b/\OwnG lo 9 H' r b (cat rsC (cm p i))):=by
 obtain⟨ad,c,ev⟩:=hv.len;rw[ev]at hv ⊢;clear ev;have p1:=ta p i;have p2:=wZ p i;have p3:=tK p i;refine stG rfl rfl ?_;unfold JN;simp only[kB,aC];refine aE ?_;rw[<-jt,<-jt];refine bz (fun S' H'=>Ext H H'/\∃w b,(H.length<=b/\OwnG lo 9 H' w b (cat rsC (gZ p i)))/\∃(z:Nat->Value),S'=[.slice ad p.length c,aA i,z 2,w,z 4,z 5,z 6,z 7,z 8,z 9,z 10,z 11,z 12,z 13,z 14,z 15,z 16,z 17,z 18,z 19,z 20,z 21,z 22,z 23,z 24,z 25,z 26,z 27,z 28]) ?_ ?_
 ·by_cases h2:i+1<p.length
  ·have hd2:decide ((i:Int)+1<(p.length:Nat))=true:=decide_eq_true byO
   obtain⟨bb,oo,xs,hia,hgx,hxx⟩:=fX hv (k:=i) byO;have hby:=(p.getD i 0).toNat_lt;replace hxx:xs[oo]?=some (.int .u8 ((p.getD i 0).toNat:Nat)):=hxx;obtain⟨bb2,oo2,xs2,hia2,hgx2,hxx2⟩:=fX hv (k:=i+1) byO;have hby2:=(p.getD (i+1) 0).toNat_lt;replace hxx2:xs2[oo2]?=some (.int .u8 ((p.getD (i+1) 0).toNat:Nat)):=hxx2;simp only[ap₀,Int.natCast_one]at hia2;have hP:gZ p i=if i+1<p.length/\j6 (p.getD i 0).toNat=true/\j6 (p.getD (i+1) 0).toNat=true then[⟨130+10*((p.getD i 0).toNat-48)+((p.getD (i+1) 0).toNat-48),-1,-1,1,asR (i+2)⟩] else[]:=rfl
   replace hP:False\/_:=.inr hP;obtain⟨y,hy⟩:∃y,False\/(p.getD i 0).toNat=y:=⟨_,.inr rfl⟩;obtain⟨y2,hy2⟩:∃y,False\/(p.getD (i+1) 0).toNat=y:=⟨_,.inr rfl⟩;rw[hy.resolve_left id]at hxx hby hP;rw[hy2.resolve_left id]at hxx2 hby2 hP;(try simp only[aC]);refine aW (t:=true) dP gW iw (fun _=>⟨_,dP,?_⟩) (fun h=>by cases h);refine aB (Jq (lo:=lo) (k:=y) hby hlo) ?_;rintro r H2 ⟨rfl,hx2⟩;have hl2:=hx2.1;clear hia hia2 hgx hgx2 hxx hxx2;obtain⟨bb2,oo2,xs2,hia2,hgx2,hxx2⟩:=fX (hv.mono hx2) (k:=i+1) byO;replace hxx2:xs2[oo2]?=some (.int .u8 ((p.getD (i+1) 0).toNat:Nat)):=hxx2;rw[hy2.resolve_left id]at hxx2;simp only[ap₀,Int.natCast_one]at hia2;by_cases hdq:j6 y=true
   ·rw[hdq]
    (try simp only[aC]);refine aW (t:=true) dP gW iw (fun _=>⟨_,dP,?_⟩) (fun h=>by cases h);refine aB (Jq (lo:=lo) (k:=y2) hby2 byO) ?_;rintro r H3 ⟨rfl,hx3⟩;have hx13:=hx2.trans hx3;have hl3:=hx13.1;clear hia2 hgx2 hxx2;by_cases hdq2:j6 y2=true
    ·have hr1:=cz.1 hdq
     have hr2:=cz.1 hdq2;have hP2:=hP.resolve_left id;rw[if_pos ⟨h2,hdq,hdq2⟩]at hP2;rw[hP2,hdq2];clear hP hP2;obtain⟨bb,oo,xs,hia,hgx,hxx⟩:=fX (hv.mono hx13) (k:=i) byO;replace hxx:xs[oo]?=some (.int .u8 ((p.getD i 0).toNat:Nat)):=hxx;rw[hy.resolve_left id]at hxx;obtain⟨bb2,oo2,xs2,hia2,hgx2,hxx2⟩:=fX (hv.mono hx13) (k:=i+1) byO;replace hxx2:xs2[oo2]?=some (.int .u8 ((p.getD (i+1) 0).toNat:Nat)):=hxx2;rw[hy2.resolve_left id]at hxx2;simp only[ap₀,Int.natCast_one]at hia2;have e1:(y:Int)-48=((y-48:Nat):Int):=byO;have e2:(y2:Int)-48=((y2-48:Nat):Int):=byO;have hm1:y-48<=9:=byO;have hm2:y2-48<=9:=byO;clear hdq hdq2 hr1 hr2;generalize y-48=m1 at e1 hm1 ⊢;generalize y2-48=m2 at e2 hm2 ⊢;(try simp only[aC]);refine aN ?_ ?_<;>intro h
     ·clear h
      refine aE ?_;refine⟨hx13.trans (Ext.app _ _),_,H3.length+1,⟨byO,.inl ⟨byO,.inr ⟨1,byO,rfl,rfl,?_⟩⟩⟩,aJ ncM⟩;rw[bL];rfl
     ·cases h
    ·have hP2:=hP.resolve_left id
     rw[if_neg (fun h=>hdq2 h.2.2)]at hP2;rw[hP2,Bool.eq_false_iff.2 hdq2];clear hP hP2;(try simp only[aC]);refine aN ?_ ?_<;>intro h
     ·cases h
     ·(try simp only[aC])
      exact⟨hx13,_,H.length,⟨Nat.le_refl _,OwnG.nil hlo⟩,aJ ncM⟩
   ·have hP2:=hP.resolve_left id
    rw[if_neg (fun h=>hdq h.2.1)]at hP2;rw[hP2,Bool.eq_false_iff.2 hdq];clear hP hP2;(try simp only[aC]);refine aW (t:=false) dP gW iw (fun h=>by cases h) (fun _=>?_);(try simp only[aC]);refine aN ?_ ?_<;>intro h
    ·cases h
    ·(try simp only[aC])
     exact⟨hx2,_,H.length,⟨Nat.le_refl _,OwnG.nil hlo⟩,aJ ncM⟩
  ·have hd2:decide ((i:Int)+1<(p.length:Nat))=false:=decide_eq_false byO
   have hP:gZ p i=[]:=by unfold gZ;rw[if_neg (fun h=>h2 h.1)]
   rw[hP];clear hP;(try simp only[aC]);refine aW (t:=false) dP gW iw (fun h=>by cases h) (fun _=>?_);(try simp only[aC]);refine aW (t:=false) dP gW iw (fun h=>by cases h) (fun _=>?_);(try simp only[aC]);refine aN ?_ ?_<;>intro h
   ·cases h
   ·(try simp only[aC])
    exact⟨Ext.refl _,_,H.length,⟨Nat.le_refl _,OwnG.nil hlo⟩,aJ ncM⟩
 rintro S' H1 ⟨hx1,w,b,⟨hb,ho⟩,z,rfl⟩;have hl1:=hx1.1;(try simp only[aC]);refine bz (fun S' H'=>Ext H H'/\∃w b,(H.length<=b/\OwnG lo 9 H' w b (cat rsC (gZ p i++nh p i)))/\∃(z:Nat->Value),S'=[.slice ad p.length c,aA i,z 2,w,z 4,z 5,z 6,z 7,z 8,z 9,z 10,z 11,z 12,z 13,z 14,z 15,z 16,z 17,z 18,z 19,z 20,z 21,z 22,z 23,z 24,z 25,z 26,z 27,z 28]) ?_ ?_
 ·have hP:nh p i=if i<p.length/\(p.getD i 0).toNat<128 then[⟨(p.getD i 0).toNat+1,-1,-1,1,asR (i+1)⟩] else[]:=rfl
  rw[hP];clear hP;by_cases hil:i<p.length
  ·have hd:decide ((i:Int)<(p.length:Nat))=true:=decide_eq_true byO
   obtain⟨bb,oo,xs,hia,hgx,hxx⟩:=fX (hv.mono hx1) hil;have hby:=(p.getD i 0).toNat_lt;replace hxx:xs[oo]?=some (.int .u8 ((p.getD i 0).toNat:Nat)):=hxx;generalize (p.getD i 0).toNat=y at hxx hby ⊢;by_cases hc:y<128
   ·have hd2:decide ((y:Int)<128)=true:=decide_eq_true byO
    rw[if_pos ⟨hil,hc⟩];refine aN ?_ ?_<;>intro h
    ·clear h hd hd2
     refine aE ?_;change wpS cp lo _ _ _ (H1++[some (rsC ⟨y+1,-1,-1,1,asR (i+1)⟩)]);refine bR ?_;refine tq (o:=⟨y+1,-1,-1,1,asR (i+1)⟩) ho byO byO ?_;intro w3 H3 hap;have hx3:=hap.ext hx1 hb;obtain⟨b3,k1,k2,k3,k4⟩:=hap;refine aE ?_;exact⟨hx3,w3,b3,⟨byO,k3⟩,aJ ncM⟩
    ·exfalso;first|(simp at h;done)|cases h
   ·have hd2:decide ((y:Int)<128)=false:=decide_eq_false byO
    rw[if_neg (fun h=>hc h.2),List.append_nil];refine aN ?_ ?_<;>intro h
    ·exfalso;first|(simp at h;done)|cases h
    ·(try simp only[aC])
     exact⟨hx1,_,b,⟨hb,ho⟩,aJ ncM⟩
  ·have hd:decide ((i:Int)<(p.length:Nat))=false:=decide_eq_false byO
   rw[if_neg (fun h=>hil h.1),List.append_nil];refine aN ?_ ?_<;>intro h
   ·exfalso;first|(simp at h;done)|cases h
   ·(try simp only[aC])
    exact⟨hx1,_,b,⟨hb,ho⟩,aJ ncM⟩
 clear hx1 ho hb hl1;rintro S' H1 ⟨hx1,w,b,⟨hb,ho⟩,z,rfl⟩;have hl1:=hx1.1;(try simp only[aC]);refine bz (fun S' H'=>Ext H H'/\∃w b,(H.length<=b/\OwnG lo 9 H' w b (cat rsC (gZ p i++nh p i++j8 p i)))/\∃(z:Nat->Value),S'=[.slice ad p.length c,aA i,z 2,w,z 4,z 5,z 6,z 7,z 8,z 9,z 10,z 11,z 12,z 13,z 14,z 15,z 16,z 17,z 18,z 19,z 20,z 21,z 22,z 23,z 24,z 25,z 26,z 27,z 28]) ?_ ?_
 ·have hP:j8 p i=if i<p.length/\128<=(p.getD i 0).toNat then[⟨235,((p.getD i 0).toNat-127:Nat),-1,2,asR (i+1)⟩] else[]:=rfl
  rw[hP];clear hP;by_cases hil:i<p.length
  ·have hd:decide ((i:Int)<(p.length:Nat))=true:=decide_eq_true byO
   obtain⟨bb,oo,xs,hia,hgx,hxx⟩:=fX (hv.mono hx1) hil;have hby:=(p.getD i 0).toNat_lt;replace hxx:xs[oo]?=some (.int .u8 ((p.getD i 0).toNat:Nat)):=hxx;generalize (p.getD i 0).toNat=y at hxx hby ⊢;by_cases hc:128<=y
   ·have hd2:decide ((y:Int)>=128)=true:=decide_eq_true byO
    have hd3:decide ((128:Int)<=(y:Nat))=true:=decide_eq_true byO;have e1:(y:Int)-127=((y-127:Nat):Int):=byO;rw[if_pos ⟨hil,hc⟩];refine aN ?_ ?_<;>intro h
    ·clear h hd hd2 hd3
     refine aE ?_;change wpS cp lo _ _ _ (H1++[some (rsC ⟨235,(y-127:Nat),-1,2,asR (i+1)⟩)]);refine bR ?_;refine tq (o:=⟨235,(y-127:Nat),-1,2,asR (i+1)⟩) ho byO (by simp;omega) ?_;intro w3 H3 hap;have hx3:=hap.ext hx1 hb;obtain⟨b3,k1,k2,k3,k4⟩:=hap;refine aE ?_;exact⟨hx3,w3,b3,⟨byO,k3⟩,aJ ncM⟩
    ·exfalso;first|(simp at h;done)|cases h
   ·have hd2:decide ((y:Int)>=128)=false:=decide_eq_false byO
    have hd3:decide ((128:Int)<=(y:Nat))=false:=decide_eq_false byO;rw[if_neg (fun h=>hc h.2),List.append_nil];refine aN ?_ ?_<;>intro h
    ·exfalso;first|(simp at h;done)|cases h
    ·(try simp only[aC])
     exact⟨hx1,_,b,⟨hb,ho⟩,aJ ncM⟩
  ·have hd:decide ((i:Int)<(p.length:Nat))=false:=decide_eq_false byO
   rw[if_neg (fun h=>hil h.1),List.append_nil];refine aN ?_ ?_<;>intro h
   ·exfalso;first|(simp at h;done)|cases h
   ·(try simp only[aC])
    exact⟨hx1,_,b,⟨hb,ho⟩,aJ ncM⟩
 clear hx1 ho hb hl1;rintro S' H1 ⟨hx1,w,b,⟨hb,ho⟩,z,rfl⟩;have hl1:=hx1.1;have hLl:(gZ p i++nh p i++j8 p i).length<=3:=by simp;omega
 unfold cm;generalize gZ p i++nh p i++j8 p i=L at ho hLl ⊢;clear p1 p2 p3;refine aE ?_;have hxc:Ext H1 (H1++[some [aA 0,aA 230,aA 239,aA 238,aA 240]]):=Ext.app _ _;have hgc:(H1++[some [aA 0,aA 230,aA 239,aA 238,aA 240]]).get H1.length=some [aA 0,aA 230,aA 239,aA 238,aA 240]:=aG;change wpS cp lo _ _ _ (H1++[some [aA 0,aA 230,aA 239,aA 238,aA 240]]);generalize H1++[some [aA 0,aA 230,aA 239,aA 238,aA 240]]=H2 at hxc hgc;obtain⟨X,hX,hXi⟩:∃X:List Value,(H2.get H1.length=some X/\X.length=5)/\(False\/∀j,j<4->X[j+1]?=some (aA (wX (j+1)))):=⟨_,⟨hgc,rfl⟩,.inr (by
  intro j hj;have:j=0\/j=1\/j=2\/j=3:=byO;rcases this with rfl|rfl|rfl|rfl<;>rfl)⟩
 obtain⟨hgX,hX5⟩:=hX;clear hgc;replace hX5:X.length<=5/\5<=X.length:=byO;have hl2:=hxc.1;have hgl:=Heap.get_lt hgX;obtain⟨b',⟨hb',hbne⟩,ho'⟩:=ho.away hb (Nat.le_refl _) byO byO;have ho2:=ho'.mono hxc;have hx2:=hx1.trans hxc;clear ho ho' hb;refine aE ?_;refine eS (fun S' H'=>Ext H H'/\∃w b,(H.length<=b/\OwnG lo 9 H' w b (cat rsC (L++kf i 4)))/\∃(z:Nat->Value),S'=[.slice ad p.length c,aA i,z 2,w,z 4,z 5,z 6,z 7,z 8,z 9,z 10,z 11,z 12,z 13,z 14,z 15,z 16,z 17,z 18,z 19,z 20,z 21,z 22,z 23,z 24,z 25,z 26,z 27,z 28]) ?_ ?_
 ·refine aa (fun k S H'=>(Ext H H'/\H'.get H1.length=some X)/\∃w b,((H.length<=b/\b≠H1.length)/\OwnG lo 9 H' w b (cat rsC (L++kf i k)))/\∃(z:Nat->Value),S=[.slice ad p.length c,aA i,z 2,w,.slice (some ⟨H1.length,0,none⟩) 5 5,.int .i64 ((k+1:Nat):Int),z 6,z 7,z 8,z 9,z 10,z 11,z 12,z 13,z 14,z 15,z 16,z 17,z 18,z 19,z 20,z 21,z 22,z 23,z 24,z 25,z 26,z 27,z 28]) 4 ⟨⟨hx2,hgX⟩,w,b',⟨⟨hb',hbne⟩,by simpa[kf]using ho2⟩,aJ rfl⟩ ?_ ?_ ?_
  ·rintro k S H' hk ⟨_,w,b,_,z,rfl⟩
   exact⟨decide (((k+1:Nat):Int)<=4),by simp(disch:=try exact dO)only[evB,xtr,Nat.reduceAdd,Nat.reduceBEq,Int.reduceToNat, *],by simp;omega⟩
  ·rintro k S H3 hk ⟨⟨hx3,hg3⟩,w,b,⟨⟨hb,hbn⟩,ho⟩,z,rfl⟩
   clear hgX ho2 hx2;have hl3:=hx3.1;have hat:=hXi.resolve_left id k hk;have hll:(L++kf i k).length<=10:=by simp[kf];omega
   have hlw:=AH (k+1);rw[B8,<-ba₀];generalize L++kf i k=L2 at ho hll ⊢;generalize wX (k+1)=lw at hat hlw ⊢;refine aE ?_;change wpS cp lo _ _ _ (H3++[some (rsC ⟨lw,-1,-1,1,⟨i,k+1,0,0,false⟩⟩)]);refine bR ?_;refine tq (o:=⟨lw,-1,-1,1,⟨i,k+1,0,0,false⟩⟩) ho byO byO ?_;intro w4 H4 hap;have hx4:=hap.ext hx3 hb;obtain⟨b4,k1,k2,k3,k4⟩:=hap;have hg4:=k4.get hg3 (fun e=>hbn e.symm);have hgl3:=Heap.get_lt hg3;refine aE ?_;exact⟨⟨hx4,hg4⟩,w4,b4,⟨byO,k3⟩,aJ ncM⟩
  ·rintro S H3 ⟨⟨hx3,hg3⟩,w,b,⟨⟨hb,hbn⟩,ho⟩,z,rfl⟩
   (try simp only[aC]);exact⟨hx3,w,b,⟨hb,ho⟩,aJ rfl⟩
 clear hgX ho2 hx2 hXi hX5 hgl hl2 hxc;rintro S' H2 ⟨hx2,w,b,⟨hb,ho⟩,z,rfl⟩;have hl2:=hx2.1;have hLl2:(L++kf i 4).length<=7:=by simp[kf];omega
 generalize L++kf i 4=L2 at ho hLl2 ⊢;refine aE ?_;refine aa (fun k S H'=>Ext H H'/\∃w b,(H.length<=b/\OwnG lo 9 H' w b (cat rsC (L2++jK i k)))/\∃(z:Nat->Value),S=[.slice ad p.length c,aA i,z 2,w,z 4,z 5,.int .i64 ((k+1:Nat):Int),z 7,z 8,z 9,z 10,z 11,z 12,z 13,z 14,z 15,z 16,z 17,z 18,z 19,z 20,z 21,z 22,z 23,z 24,z 25,z 26,z 27,z 28]) (min 1749 (p.length-i)) ⟨hx2,w,b,⟨hb,by simpa[jK]using ho⟩,aJ rfl⟩ ?_ ?_ ?_
 ·rintro k S H' hk ⟨_,w,b,_,z,rfl⟩
  refine⟨decide (k<min 1749 (p.length-i)),?_,by simp⟩;by_cases h1:k+1<=1749
  ·have hd1:decide (((k+1:Nat):Int)<=1749)=true:=decide_eq_true byO
   by_cases h2:i+(k+1)<=p.length
   ·rw[decide_eq_true byO]
    have hd2:decide ((i:Int)+((k+1:Nat):Int)<=(p.length:Nat))=true:=decide_eq_true byO;simp(disch:=try exact dO)only[evB,xtr,Nat.reduceAdd,Nat.reduceBEq,Int.reduceToNat, *]
   ·rw[decide_eq_false byO]
    have hd2:decide ((i:Int)+((k+1:Nat):Int)<=(p.length:Nat))=false:=decide_eq_false byO;simp(disch:=try exact dO)only[evB,xtr,Nat.reduceAdd,Nat.reduceBEq,Int.reduceToNat, *]
  ·rw[decide_eq_false byO]
   have hd1:decide (((k+1:Nat):Int)<=1749)=false:=decide_eq_false byO;simp(disch:=try exact dO)only[evB,xtr,Nat.reduceAdd,Nat.reduceBEq,Int.reduceToNat, *]
 ·rintro k S H3 hk ⟨hx3,w,b,⟨hb,ho⟩,z,rfl⟩
  clear hx2;have hl3:=hx3.1;have hk1:k+1<=p.length-i:=byO;have hk2:k+1<=1749:=byO;clear hk;have hll:(L2++jK i k).length<=2000:=by simp[jK];omega
  rw[zB,<-ba₀];generalize L2++jK i k=L3 at ho hll ⊢;have hrun:False\/cV i (k+1)=if k+1<250 then⟨231,((k+1:Nat):Nat),-1,2+(k+1),asR (i+(k+1))⟩ else⟨231,((k+1)/250+249:Nat),((k+1)%250:Nat),3+(k+1),asR (i+(k+1))⟩:=.inr rfl
  generalize cV i (k+1)=st at hrun ⊢;refine aE ?_;change wpS cp lo _ _ _ (H3++[some [aA 231,aA (k+1),.int .i64 (-1),aA (2+(k+1)),aA (i+(k+1)),aA 0,aA 0,aA 0,.bool false]]);have hxd:Ext H3 (H3++[some [aA 231,aA (k+1),.int .i64 (-1),aA (2+(k+1)),aA (i+(k+1)),aA 0,aA 0,aA 0,.bool false]]):=Ext.app _ _;have hgd:(H3++[some [aA 231,aA (k+1),.int .i64 (-1),aA (2+(k+1)),aA (i+(k+1)),aA 0,aA 0,aA 0,.bool false]]).get H3.length=some [aA 231,aA (k+1),.int .i64 (-1),aA (2+(k+1)),aA (i+(k+1)),aA 0,aA 0,aA 0,.bool false]:=aG;generalize H3++[some [aA 231,aA (k+1),.int .i64 (-1),aA (2+(k+1)),aA (i+(k+1)),aA 0,aA 0,aA 0,.bool false]]=H4 at hxd hgd;have hgl4:=Heap.get_lt hgd;refine bz (fun S' H'=>(Keep H3.length H4 H'/\H'.get H3.length=some (rsC st))/\∃(z:Nat->Value),S'=[.slice ad p.length c,aA i,z 2,w,z 4,z 5,.int .i64 ((k+1:Nat):Int),ptr H3.length,z 8,z 9,z 10,z 11,z 12,z 13,z 14,z 15,z 16,z 17,z 18,z 19,z 20,z 21,z 22,z 23,z 24,z 25,z 26,z 27,z 28]) ?_ ?_
  ·by_cases h250:k+1<250
   ·have hdd:decide (((k+1:Nat):Int)>=250)=false:=decide_eq_false byO
    have hr:=hrun.resolve_left id;rw[if_pos h250]at hr;subst hr;clear hrun;refine aN ?_ ?_<;>intro h
    ·simp at h
    ·clear h hdd
     (try simp only[aC]);exact⟨⟨Ext.keep (Ext.refl _),hgd⟩,aJ ncM⟩
   ·have hdd:decide (((k+1:Nat):Int)>=250)=true:=decide_eq_true byO
    have hr:=hrun.resolve_left id;rw[if_neg h250]at hr;clear hrun;have eq1:((k+1:Nat):Int).tdiv 250=(((k+1)/250:Nat):Int):=by rw[Int.tdiv_eq_ediv_of_nonneg byO];omega
    have eq2:((k+1:Nat):Int).tmod 250=(((k+1)%250:Nat):Int):=by rw[Int.tmod_eq_emod_of_nonneg byO];omega
    have hq1:(k+1)/250<=10:=byO;have hq2:(k+1)%250<250:=byO;generalize (k+1)/250=q1 at eq1 hq1 hr;generalize (k+1)%250=q2 at eq2 hq2 hr;subst hr;refine aN ?_ ?_<;>intro h
    ·clear h hdd
     refine aE ?_;exact⟨⟨an (an keepSet (.inl rfl) keepSet) (.inl rfl) keepSet,aF (by simp;omega)⟩,aJ ncM⟩
    ·simp at h
  rintro S' H5 ⟨⟨hk5,hg5⟩,z,rfl⟩;have ho5:=ho.over hxd hk5 (Nat.le_refl _);have hx5:=hk5.ext (hx3.trans hxd) hl3;have hl5:=hk5.len;have hl4:=hxd.1;clear hrun hgd;refine aE ?_;change wpS cp lo _ _ _ (H5++[some (rsC st)]);refine bR ?_;refine tq (o:=st) ho5 byO byO ?_;intro w6 H6 hap;have hx6:=hap.ext hx5 hb;obtain⟨b6,k1,k2,k3,k4⟩:=hap;refine aE ?_;exact⟨hx6,w6,b6,⟨byO,k3⟩,aJ ncM⟩
 ·rintro S H3 ⟨hx3,w,b,⟨hb,ho⟩,z,rfl⟩
  refine aE ?_;refine dB ?_;exact⟨hx3,b,hb,ho⟩
end
theorem sB(p:List UInt8)(n:RN):(bW p n).length<=2000:=by
 unfold bW;split
 ·unfold cm
  have:=ta p n.i;have:=wZ p n.i;have:=tK p n.i;simp[kf,jK];omega
 ·split
  ·have:=pC p n 40
   unfold zJ;omega
  ·unfold qb
   split<;>simp
structure CoH (H:Heap)(kb:Nat)(v:Value)(p:List UInt8)(C:List Nat):Prop where
 c:H.get kb=some (uN C)
 pl:SlU H v p
 len:C.length=(p.length+1)*128
 hi:p.length<=4096
 le:∀i,C.getD i 0<=1099511627776
theorem CoH.ext{H H':Heap}{kb:Nat}{v:Value}{p:List UInt8}{C:List Nat}(h:CoH H kb v p C)(e:Ext H H'):CoH H' kb v p C:=
 ⟨e.get h.c,h.pl.mono e,h.len,h.hi,h.le⟩
abbrev coV(kb:Nat)(p:List UInt8):Value:=.slice (some ⟨kb,0,none⟩) (p.length+1) (p.length+1)
def dk(C:List Nat)(x:RS):Nat:=x.c+C.getD (x.to.i*128+eX x.to) 0
def iW(C:List Nat)(b:Nat)(x:RS):Nat:=if dk C x<b then dk C x else b
def mK(p:List UInt8)(n:RN):Nat:=if n.m=0/\n.i=p.length then 0 else 1099511627776
def du(p:List UInt8)(n:RN)(C:List Nat):Nat:=(bW p n).foldl (iW C) (mK p n)
section
variable {lo:Nat}{H:Heap}{v:Value}{p:List UInt8}
open XYe
theorem FZ{n:RN}(hv:SlU H v p)(hn:n.ok p.length)(hl:p.length<=4096)(hlo:lo<=H.length):Ev cp lo 97 [v,rnV n] H (fun r H'=>Ext H H'/\∃b,H.length<=b/\OwnG lo 9 H' r b (cat rsC (bW p n))):=by
 obtain⟨ad,c,ev⟩:=hv.len;rw[ev]at hv ⊢;clear ev;have h1:=hn.i;have h2:=hn.m;obtain⟨h3,h4,h5⟩:=hn.ph;unfold bW;refine stG rfl rfl ?_;unfold OP;simp only[kB,aC];refine aE ?_;have hxb:Ext H (H++[some (rnC n)]):=Ext.app _ _;have hgb:(H++[some (rnC n)]).get H.length=some [aA n.i,aA n.m,aA n.ph,aA n.s,.bool n.u]:=aG;change wpS cp lo _ _ _ (H++[some (rnC n)]);generalize H++[some (rnC n)]=Hb at hxb hgb;have hlb:=hxb.1;by_cases hm0:n.m=0
 ·have hd:decide ((n.m:Int)=0)=true:=decide_eq_true byO
  rw[if_pos hm0];replace hm0:n.m<=0:=byO;refine aN ?_ ?_<;>intro h
  ·clear h hd
   (try simp only[aC]);refine bR ?_;refine aB (Ia (hv.mono hxb) h1 hl byO) ?_;rintro r H1 ⟨hx,b,hb,ho⟩;refine aE ?_;refine dB ?_;exact⟨hxb.trans hx,b,byO,ho⟩
  ·simp at h
 have hd:decide ((n.m:Int)=0)=false:=decide_eq_false byO;rw[if_neg hm0];refine aN ?_ ?_<;>intro h
 ·simp at h
 clear h hd;(try simp only[aC]);by_cases hm4:n.m≠4
 ·have hd:decide ((n.m:Int)=4)=false:=decide_eq_false byO
  rw[if_pos hm4];refine aN ?_ ?_<;>intro h
  ·clear h hd
   (try simp only[aC]);refine bR ?_;refine aB (N0 (n:=n) (hv.mono hxb) hn byO hl byO) ?_;rintro r H1 ⟨hx,b,hb,ho⟩;refine aE ?_;refine dB ?_;exact⟨hxb.trans hx,b,byO,ho⟩
  ·exfalso;simp at h;omega
 have hd:decide ((n.m:Int)=4)=true:=decide_eq_true byO;rw[if_neg hm4];refine aN ?_ ?_<;>intro h
 ·exfalso;simp at h;omega
 clear h hd hm4 hm0;refine aE ?_;have hed:False\/mG n=if n.ph=3 then 0 else 1:=.inr rfl
 have hel:mG n<=1:=by rw[hed.resolve_left id];split<;>omega
 unfold qb;refine bz (fun S' H'=>Hb=H'/\∃(z:Nat->Value),S'=[.slice ad p.length c,z 1,ptr H.length,z 3,aA (mG n),z 5,z 6,z 7,z 8,z 9,z 10,z 11]) ?_ ?_
 ·generalize mG n=e at hed ⊢
  by_cases hp3:n.ph=3
  ·have hd:decide ((n.ph:Int)=3)=true:=decide_eq_true byO
   have he:=hed.resolve_left id;rw[if_pos hp3]at he;subst he;replace hp3:n.ph<=3/\3<=n.ph:=byO;refine aN ?_ ?_<;>intro h
   ·clear h hd
    refine aE ?_;exact⟨by trivial,aJ rfl⟩
   ·simp at h
  ·have hd:decide ((n.ph:Int)=3)=false:=decide_eq_false byO
   have he:=hed.resolve_left id;rw[if_neg hp3]at he;subst he;refine aN ?_ ?_<;>intro h
   ·simp at h
   ·clear h hd
    (try simp only[aC]);exact⟨by trivial,aJ rfl⟩
 rintro S' Hc ⟨rfl,z,rfl⟩;clear hed;generalize mG n=e at hel ⊢;refine aE ?_;change wpS cp lo _ _ _ (Hb++[some (rsC ⟨31,-1,-1,e,asR n.i⟩)]);have hxc:Ext Hb (Hb++[some (rsC ⟨31,-1,-1,e,asR n.i⟩)]):=Ext.app _ _;have hgc:(Hb++[some (rsC ⟨31,-1,-1,e,asR n.i⟩)]).get Hb.length=some (rsC ⟨31,-1,-1,e,asR n.i⟩):=aG;generalize Hb++[some (rsC ⟨31,-1,-1,e,asR n.i⟩)]=H1 at hxc hgc;have ho:OwnG lo 9 H1 (.slice (some ⟨Hb.length,0,none⟩) 1 1) Hb.length (cat rsC [⟨31,-1,-1,e,asR n.i⟩]):=.inr ⟨byO,1,byO,rfl,rfl,hgc⟩;have hg1:=hxc.get hgb;have hx1:=hxb.trans hxc;have hl1:=hx1.1;clear hgc;by_cases hil:n.i<p.length
 ·have hd:decide ((n.i:Int)<(p.length:Nat))=true:=decide_eq_true byO
  obtain⟨bb,oo,xs,hia,hgx,hxx⟩:=fX (hv.mono hx1) hil;have hby:=(p.getD n.i 0).toNat_lt;replace hxx:xs[oo]?=some (.int .u8 ((p.getD n.i 0).toNat:Nat)):=hxx;have hbe:by' p n.i=(p.getD n.i 0).toNat:=rfl;rw[hbe];clear hbe;generalize (p.getD n.i 0).toNat=y at hxx hby ⊢;by_cases hc:32<=y/\y<=94
  ·rw[if_pos ⟨hil,hc⟩]
   obtain⟨c1,c2⟩:=hc;have d1:decide ((y:Int)>=32)=true:=decide_eq_true byO;have d2:decide ((32:Int)<=(y:Nat))=true:=decide_eq_true byO;have d3:decide ((y:Int)<=94)=true:=decide_eq_true byO;have q1:(y:Int).tmod 64=((y%64:Nat):Int):=by rw[Int.tmod_eq_emod_of_nonneg byO];omega
   have q2:((n.ph:Int)+1).tmod 4=(((n.ph+1)%4:Nat):Int):=by rw[Int.tmod_eq_emod_of_nonneg byO];omega
   have r1:y%64<=63:=byO;have r2:(n.ph+1)%4<=3:=byO;generalize y%64=y6 at q1 r1 ⊢;generalize (n.ph+1)%4=ph4 at q2 r2 ⊢;refine aN ?_ ?_<;>intro h
   ·clear h hd d1 d2 d3
    refine aE ?_;change wpS cp lo _ _ _ (H1++[some (rsC ⟨y6,-1,-1,e,⟨n.i+1,4,ph4,0,false⟩⟩)]);refine bR ?_;refine tq (o:=⟨y6,-1,-1,e,⟨n.i+1,4,ph4,0,false⟩⟩) ho byO (by simp) ?_;intro w3 H3 hap;have hx3:=hap.ext hx1 byO;obtain⟨b3,k1,k2,k3,k4⟩:=hap;refine aE ?_;refine dB ?_;exact⟨hx3,b3,byO,k3⟩
   ·exfalso;first|(simp at h;done)|cases h
  ·rw[if_neg (fun h=>hc h.2),List.append_nil]
   have hcc:(decide ((y:Int)>=32)&&decide ((y:Int)<=94))=false:=by simp only[Bool.and_eq_false_iff,ai₀];omega
   refine aN ?_ ?_<;>intro h
   ·exfalso;first|(rw[hcc]at h;cases h)|(simp at h;omega)|cases h
   ·refine aE ?_
    refine dB ?_;exact⟨hx1,_,byO,ho⟩
 ·have hd:decide ((n.i:Int)<(p.length:Nat))=false:=decide_eq_false byO
  rw[if_neg (fun h=>hil h.1),List.append_nil];refine aN ?_ ?_<;>intro h
  ·exfalso;first|(simp at h;done)|cases h
  ·refine aE ?_
   refine dB ?_;exact⟨hx1,_,byO,ho⟩
theorem OT{n:RN}{kb:Nat}{C:List Nat}(hs:CoH H kb v p C)(hn:n.ok p.length)(hlo:lo<=H.length):Ev cp lo 95 [v,rnV n,coV kb p] H (fun r H'=>Ext H H'/\r=aA (du p n C)):=by
 obtain⟨ad,c,ev⟩:=hs.pl.len;rw[ev]at hs ⊢;clear ev;have h1:=hn.i;have hl:=hs.hi;refine stG rfl rfl ?_;unfold ON;simp only[kB,aC];refine aE ?_;have hxb:Ext H (H++[some (rnC n)]):=Ext.app _ _;have hgb:(H++[some (rnC n)]).get H.length=some [aA n.i,aA n.m,aA n.ph,aA n.s,.bool n.u]:=aG;change wpS cp lo _ _ _ (H++[some (rnC n)]);generalize H++[some (rnC n)]=Hb at hxb hgb;have hlb:=hxb.1;have hbs:False\/mK p n=if n.m=0/\n.i=p.length then 0 else 1099511627776:=.inr rfl
 have hbl:mK p n<=1099511627776:=by rw[hbs.resolve_left id];split<;>omega
 unfold du;generalize mK p n=b0 at hbs hbl ⊢;refine bz (fun S' H'=>Hb=H'/\∃(z:Nat->Value),S'=[.slice ad p.length c,z 1,coV kb p,ptr H.length,z 4,aA b0,z 6,z 7,z 8,z 9,z 10,z 11,z 12]) ?_ ?_
 ·by_cases hc:n.m=0/\n.i=p.length
  ·have hb2:=hbs.resolve_left id
   rw[if_pos hc]at hb2;subst hb2;obtain⟨c1,c2⟩:=hc;have d1:decide ((n.m:Int)=0)=true:=decide_eq_true byO;have d2:decide ((n.i:Int)=(p.length:Nat))=true:=decide_eq_true byO;replace c1:n.m<=0:=byO;replace c2:n.i<=p.length/\p.length<=n.i:=byO;refine aN ?_ ?_<;>intro h
   ·clear h
    refine aE ?_;exact⟨by trivial,aJ rfl⟩
   ·exfalso;first|(simp at h;done)|cases h
  ·have hb2:=hbs.resolve_left id
   rw[if_neg hc]at hb2;subst hb2;have hcc:(decide ((n.m:Int)=0)&&decide ((n.i:Int)=(p.length:Nat)))=false:=by simp only[Bool.and_eq_false_iff,ai₀];omega
   refine aN ?_ ?_<;>intro h
   ·exfalso;first|(rw[hcc]at h;cases h)|cases h
   ·(try simp only[aC])
    exact⟨by trivial,aJ rfl⟩
 rintro S' Hc ⟨rfl,z,rfl⟩;clear hbs;(try simp only[aC]);refine bR ?_;refine aB (FZ (n:=n) (hs.ext hxb).pl hn hl byO) ?_;rintro r H1 ⟨hx1,b,hb,ho⟩;have hok:=lu hn;have hsl:=sB p n;generalize bW p n=L at ho hok hsl ⊢;obtain⟨aw,rfl⟩:=ho.len byO oC;have hs1:=hs.ext (hxb.trans hx1);have hx01:=hxb.trans hx1;refine aE ?_;refine aa (fun k S H'=>(Ext H1 H'/\(L.take k).foldl (iW C) b0<=1099511627776)/\∃(z:Nat->Value),S=[.slice ad p.length c,z 1,coV kb p,z 3,z 4,aA ((L.take k).foldl (iW C) b0),.slice aw L.length L.length,.int .i64 (k:Nat),z 8,z 9,z 10,z 11,z 12]) L.length ⟨⟨Ext.refl _,hbl⟩,aJ rfl⟩ ?_ ?_ ?_
 ·rintro k S H' hk ⟨_,z,rfl⟩
  exact⟨decide ((k:Int)<(L.length:Nat)),by simp(disch:=try exact dO)only[evB,xtr,Nat.reduceAdd,Nat.reduceBEq,Int.reduceToNat, *],by simp⟩
 ·rintro k S H2 hk ⟨⟨hx2,hmx⟩,z,rfl⟩
  have hs2:=hs1.ext hx2;have ho2:=ho.mono hx2;obtain⟨p4,o4,X4,i4,g4,l4,e4⟩:=ho2.at byO oC hk;have hoo:=hok _ (List.getElem_mem hk);have hr:(L.take (k+1)).foldl (iW C) b0=iW C ((L.take k).foldl (iW C) b0) L[k]:=by
   rw[List.take_succ_eq_append_getElem hk,List.foldl_append];rfl
  rw[hr];clear hr;generalize (L.take k).foldl (iW C) b0=m at hmx ⊢;generalize L[k]=x at e4 hoo ⊢;have hj:∀j,j<9->X4[o4+j]?=(rsC x)[j]?:=fun j hj=>by rw[<-e4,List.getElem?_take,if_pos hj,List.getElem?_drop]
  have f3:X4[o4+3]?=some (aA x.c):=hj 3 byO;have f4:X4[o4+4]?=some (aA x.to.i):=hj 4 byO;have f5:(X4.drop (o4+4)).take 5=rnC x.to:=by
   have h5:(X4.drop (o4+4)).take 5=((X4.drop o4).take 9).drop 4:=by rw[List.drop_take,List.drop_drop]
   rw[h5,e4];rfl
  have hil:=hoo.to.i;have hnl:=hO hoo.to;have hxc:=hoo.c;clear hj e4;have hgc:=hs2.c;have hlen:=hs2.len;have hidx:x.to.i*128+eX x.to<C.length:=byO;have hat:=mW hidx;have hle:=hs2.le (x.to.i*128+eX x.to);have hul:(uN C).length<=C.length/\C.length<=(uN C).length:=by simp
  have hm2:iW C m x=if x.c+C.getD (x.to.i*128+eX x.to) 0<m then x.c+C.getD (x.to.i*128+eX x.to) 0 else m:=rfl
  rw[hm2];clear hm2;generalize C.getD (x.to.i*128+eX x.to) 0=y at hat hle ⊢;obtain⟨U,hU⟩:∃U,False\/uN C=U:=⟨_,.inr rfl⟩;rw[hU.resolve_left id]at hgc hat hul;replace hlen:C.length<=(p.length+1)*128/\(p.length+1)*128<=C.length:=byO;have hno:=Hn (lo:=H2.length) (H:=H2) hoo.to byO;generalize eX x.to=nx at hat hidx hnl hno;(try simp only[aC]);refine aW (t:=true) dP gW iw (fun _=>⟨_,dP,?_⟩) (fun h=>by cases h);refine cU hno ?_;rintro r H3 ⟨hx3,rfl⟩;have hgc3:=hx3.get hgc;clear hno;have e:False\/(if (x.c:Int)+(y:Nat)<(m:Nat) then(x.c:Int)+(y:Nat) else(m:Nat))=((if x.c+y<m then x.c+y else m:Nat):Int):=.inr (by
   by_cases hc:x.c+y<m
   ·rw[if_pos hc,if_pos byO];omega
   ·rw[if_neg hc,if_neg byO])
  have hmm:(if x.c+y<m then x.c+y else m:Nat)<=1099511627776:=by split<;>omega
  refine aE ?_;rw[e.resolve_left id];exact⟨⟨hx2.trans hx3,hmm⟩,aJ rfl⟩
 ·rintro S H2 ⟨⟨hx2,hmx⟩,z,rfl⟩
  rw[List.take_length]at hmx ⊢;refine aE ?_;refine dB ?_;exact⟨hx01.trans hx2,rfl⟩
end
section
variable {α:Type}{enc:α->List Value}{n:Nat}
theorem Hq(h1:∀x,oneCells (enc x)=true)(rs:List α):oneCells (cat enc rs)=true:=by
 induction rs with
 | nil=>rfl
 | cons x l ih=>
  have:cat enc (x::l)=enc x++cat enc l:=by simp[cat]
  rw[this];have h2:=h1 x;unfold oneCells at h2 ih ⊢;rw[List.all_append,h2,ih];rfl
theorem C0{cp:FuncId->Option CF}{lo:Nat}{z:List Value}{H:Heap}{v:Value}{b t:Nat}{sp:Option Nat}{m d:Nat}{L:List α}{rs:List α}{R:Value->Heap->Prop}(hd:0<d)(hr:rs.length=d)(hn:0<n)(hn2:n<=100)(he:∀x,(enc x).length=n)(h1:∀x,oneCells (enc x)=true)(ho:OwnG lo n H v b (cat enc L))(hlo:lo<=H.length)(hbig:L.length<=10000000)(hd2:d<=10000)(ht:H.get t=some (cat enc rs))
  (k:∀v' H',AppG lo n H b (cat enc (L++rs)) v' H'->R v' H'):wpH cp lo (.app n z) [v,.slice (some ⟨t,0,sp⟩) d m] H R:=by
 have hcl:=jv he L;have hcb:(cat enc L).length<=1000000000:=by
  rw[hcl];exact Nat.le_trans (Nat.mul_le_mul hbig hn2) (by decide)
 have hl1:(cat enc rs).length=d*n:=by rw[jv he,hr]
 have ho1:=Hq h1 rs;have happ:cat enc (L++rs)=cat enc L++cat enc rs:=jA _ _;rw[happ]at k;rcases ho with ho|⟨hb,q,hq0,hq,rfl,hg⟩
 ·refine mD ho byO hn byO byO ht byO (c:=cat enc rs) (by rw[List.drop_zero,List.take_of_length_le byO]) ho1 ?_
  intro v' H' ho' hk hl';exact k v' H' ⟨H.length,.inr (Nat.le_refl _),byO,.inl ho',hk⟩
 ·have e1:H.cells t 0 (d*n)=some (cat enc rs):=by rw[cells_get ht byO,List.drop_zero,List.take_of_length_le byO]
  have e2:H.cells b 0 (q*n)=some (cat enc L):=by rw[cells_get hg byO,List.drop_zero,List.take_of_length_le byO]
  have hq1:q<=(cat enc L).length:=by rw[<-hq];exact Nat.le_mul_of_pos_right q hn
  simp only[wpH,cL,hsem,e1,ao₀,ho1,if_true,aU];rw[if_neg byO,if_neg (by show ¬ bh<_;unfold bh;omega),e2];simp only[Option.map_some];refine k _ _ ⟨H.length,.inr (Nat.le_refl _),by simp,.inl ⟨byO,.inr ⟨q+d,byO,?_,rfl,?_⟩⟩,Ext.keep (Ext.app _ _)⟩
  ·rw[as₀,<-hq,Nat.add_mul,hl1]
  ·rw[aG]
end
def nd2(i m ph s:Nat):List RN:=[⟨i,m,ph,s,false⟩,⟨i,m,ph,s,true⟩]
def ndS(i m ph k:Nat):List RN:=(List.range k).flatMap fun s=>nd2 i m ph s
def ndP(i m k:Nat):List RN:=(List.range k).flatMap fun ph=>ndS i m ph 4
def ndM(i k:Nat):List RN:=(List.range k).flatMap fun m=>ndP i (m+1) 3
def ndE(i k:Nat):List RN:=(List.range k).flatMap fun ph=>(if ph<3 then[⟨i,3,ph,0,false⟩] else[])++[⟨i,4,ph,0,false⟩]
def fh(i:Nat):List RN:=[asR i]++ndM i 2++ndE i 4
theorem pt{β:Type}(f:Nat->List β)(k:Nat):(List.range (k+1)).flatMap f=(List.range k).flatMap f++f k:=by
 rw[List.range_succ,List.flatMap_append];simp
theorem EZ(i m ph k:Nat):ndS i m ph (k+1)=ndS i m ph k++nd2 i m ph k:=pt _ _
theorem EY(i m k:Nat):ndP i m (k+1)=ndP i m k++ndS i m k 4:=pt _ _
theorem EX(i k:Nat):ndM i (k+1)=ndM i k++ndP i (k+1) 3:=pt _ _
theorem EW(i k:Nat):ndE i (k+1)=ndE i k++((if k<3 then[⟨i,3,k,0,false⟩] else[])++[⟨i,4,k,0,false⟩]):=pt _ _
theorem AQ(i m ph k:Nat):(ndS i m ph k).length<=k*2:=by
 have:=ek (f:=fun s=>nd2 i m ph s) (c:=2) (l:=List.range k) (fun x _=>by simp[nd2]);simpa[ndS]using this
theorem AP(i m k:Nat):(ndP i m k).length<=k*8:=by
 have:=ek (f:=fun ph=>ndS i m ph 4) (c:=8) (l:=List.range k) (fun x _=>AQ _ _ _ _);simpa[ndP]using this
theorem ue(i k:Nat):(ndM i k).length<=k*24:=by
 have:=ek (f:=fun m=>ndP i (m+1) 3) (c:=24) (l:=List.range k) (fun x _=>AP _ _ _);simpa[ndM]using this
theorem AO(i k:Nat):(ndE i k).length<=k*2:=by
 have:=ek (f:=fun ph=>(if ph<3 then[(⟨i,3,ph,0,false⟩:RN)] else[])++[⟨i,4,ph,0,false⟩]) (c:=2) (l:=List.range k) (fun x _=>by split<;>simp);simpa[ndE]using this
section
variable {lo:Nat}{H:Heap}
open XYe
theorem M5{i:Nat}(hi:i<=4096)(hlo:lo<=H.length):Ev cp lo 94 [aA i] H (fun r H'=>Ext H H'/\∃b,H.length<=b/\OwnG lo 5 H' r b (cat rnC (fh i))):=by
 refine stG rfl rfl ?_;unfold OM;simp only[kB,aC];refine aE ?_;have hxb:Ext H (H++[some (rnC (asR i))]):=Ext.app _ _;have hgb:(H++[some (rnC (asR i))]).get H.length=some (rnC (asR i)):=aG;change wpS cp lo _ _ _ (H++[some (rnC (asR i))]);generalize H++[some (rnC (asR i))]=Hb at hxb hgb;have ho:OwnG lo 5 Hb (.slice (some ⟨H.length,0,none⟩) 1 1) H.length (cat rnC [asR i]):=.inr ⟨byO,1,byO,rfl,rfl,hgb⟩;refine eS (fun S' H'=>Ext H H'/\∃w b,(H.length<=b/\OwnG lo 5 H' w b (cat rnC ([asR i]++ndM i 2)))/\∃(z:Nat->Value),S'=[aA i,z 1,w,z 3,z 4,z 5,z 6,z 7,z 8,z 9,z 10,z 11,z 12,z 13,z 14,z 15,z 16]) ?_ ?_
 ·refine aa (fun k S H'=>Ext H H'/\∃w b,(H.length<=b/\OwnG lo 5 H' w b (cat rnC ([asR i]++ndM i k)))/\∃(z:Nat->Value),S=[aA i,z 1,w,.int .i64 ((k+1:Nat):Int),z 4,z 5,z 6,z 7,z 8,z 9,z 10,z 11,z 12,z 13,z 14,z 15,z 16]) 2 ⟨hxb,_,H.length,⟨Nat.le_refl _,by simpa[ndM]using ho⟩,aJ rfl⟩ ?_ ?_ ?_
  ·rintro k S H' hk ⟨_,w,b,_,z,rfl⟩
   exact⟨decide (((k+1:Nat):Int)<=2),by simp(disch:=try exact dO)only[evB,xtr,Nat.reduceAdd,Nat.reduceBEq,Int.reduceToNat, *],by simp;omega⟩
  ·rintro m S H1 hm ⟨hx1,w,b,⟨hb,ho⟩,z,rfl⟩
   have hLl:([asR i]++ndM i m).length<=50:=by have:=ue i m;simp;omega
   rw[EX,<-ba₀];generalize [asR i]++ndM i m=L at ho hLl ⊢;clear hxb hgb;refine aE ?_;refine aa (fun k S H'=>Ext H H'/\∃w b,(H.length<=b/\OwnG lo 5 H' w b (cat rnC (L++ndP i (m+1) k)))/\∃(z:Nat->Value),S=[aA i,z 1,w,.int .i64 ((m+1:Nat):Int),.int .i64 (k:Nat),z 5,z 6,z 7,z 8,z 9,z 10,z 11,z 12,z 13,z 14,z 15,z 16]) 3 ⟨hx1,w,b,⟨hb,by simpa[ndP]using ho⟩,aJ rfl⟩ ?_ ?_ ?_
   ·rintro k S H' hk ⟨_,w,b,_,z,rfl⟩
    exact⟨decide (((k:Nat):Int)<3),by simp(disch:=try exact dO)only[evB,xtr,Nat.reduceAdd,Nat.reduceBEq,Int.reduceToNat, *],by simp;omega⟩
   ·rintro ph S H2 hph ⟨hx2,w,b,⟨hb,ho⟩,z,rfl⟩
    have hLl2:(L++ndP i (m+1) ph).length<=100:=by have:=AP i (m+1) ph;simp;omega
    rw[EY,<-ba₀];generalize L++ndP i (m+1) ph=L2 at ho hLl2 ⊢;clear hx1 hLl;refine aE ?_;refine aa (fun k S H'=>Ext H H'/\∃w b,(H.length<=b/\OwnG lo 5 H' w b (cat rnC (L2++ndS i (m+1) ph k)))/\∃(z:Nat->Value),S=[aA i,z 1,w,.int .i64 ((m+1:Nat):Int),.int .i64 (ph:Nat),.int .i64 (k:Nat),z 6,z 7,z 8,z 9,z 10,z 11,z 12,z 13,z 14,z 15,z 16]) 4 ⟨hx2,w,b,⟨hb,by simpa[ndS]using ho⟩,aJ rfl⟩ ?_ ?_ ?_
    ·rintro k S H' hk ⟨_,w,b,_,z,rfl⟩
     exact⟨decide (((k:Nat):Int)<4),by simp(disch:=try exact dO)only[evB,xtr,Nat.reduceAdd,Nat.reduceBEq,Int.reduceToNat, *],by simp;omega⟩
    ·rintro k S H3 hk ⟨hx3,w,b,⟨hb,ho⟩,z,rfl⟩
     have hLl3:(L2++ndS i (m+1) ph k).length<=200:=by have:=AQ i (m+1) ph k;simp;omega
     rw[EZ,<-ba₀];generalize L2++ndS i (m+1) ph k=L3 at ho hLl3 ⊢;clear hx2 hLl2;have hl3:=hx3.1;refine aE ?_;change wpS cp lo _ _ _ (H3++[some (cat rnC (nd2 i (m+1) ph k))]);have hxc:Ext H3 (H3++[some (cat rnC (nd2 i (m+1) ph k))]):=Ext.app _ _;have hgc:(H3++[some (cat rnC (nd2 i (m+1) ph k))]).get H3.length=some (cat rnC (nd2 i (m+1) ph k)):=aG;have hlc:=hxc.1;have hx4:=hx3.trans hxc;generalize H3++[some (cat rnC (nd2 i (m+1) ph k))]=H4 at hxc hgc hlc hx4;refine bR ?_;refine C0 (enc:=rnC) (rs:=nd2 i (m+1) ph k) byO rfl byO byO oA vG (ho.mono hxc) byO byO byO hgc ?_;intro w5 H5 hap;have hx5:=hap.ext hx4 hb;obtain⟨b5,k1,k2,k3,k4⟩:=hap;have hl4:=hx4.1;refine aE ?_;exact⟨hx5,w5,b5,⟨byO,k3⟩,aJ ncM⟩
    ·rintro S H3 ⟨hx3,w,b,⟨hb,ho⟩,z,rfl⟩
     refine aE ?_;exact⟨hx3,w,b,⟨hb,ho⟩,aJ ncM⟩
   ·rintro S H3 ⟨hx3,w,b,⟨hb,ho⟩,z,rfl⟩
    refine aE ?_;exact⟨hx3,w,b,⟨hb,ho⟩,aJ ncM⟩
  ·rintro S H3 ⟨hx3,w,b,⟨hb,ho⟩,z,rfl⟩
   (try simp only[aC]);exact⟨hx3,w,b,⟨hb,ho⟩,aJ rfl⟩
 clear hxb hgb ho;rintro S' H2 ⟨hx2,w,b,⟨hb,ho⟩,z,rfl⟩;have hLl:([asR i]++ndM i 2).length<=50:=by have:=ue i 2;simp;omega
 unfold fh;generalize [asR i]++ndM i 2=L at ho hLl ⊢;refine aE ?_;refine aa (fun k S H'=>Ext H H'/\∃w b,(H.length<=b/\OwnG lo 5 H' w b (cat rnC (L++ndE i k)))/\∃(z:Nat->Value),S=[aA i,z 1,w,z 3,z 4,z 5,.int .i64 (k:Nat),z 7,z 8,z 9,z 10,z 11,z 12,z 13,z 14,z 15,z 16]) 4 ⟨hx2,w,b,⟨hb,by simpa[ndE]using ho⟩,aJ rfl⟩ ?_ ?_ ?_
 ·rintro k S H' hk ⟨_,w,b,_,z,rfl⟩
  exact⟨decide (((k:Nat):Int)<4),by simp(disch:=try exact dO)only[evB,xtr,Nat.reduceAdd,Nat.reduceBEq,Int.reduceToNat, *],by simp;omega⟩
 ·rintro k S H3 hk ⟨hx3,w,b,⟨hb,ho⟩,z,rfl⟩
  have hLl3:(L++ndE i k).length<=100:=by have:=AO i k;simp;omega
  rw[EW,<-ba₀,<-ba₀];generalize L++ndE i k=L3 at ho hLl3 ⊢;clear hx2 hLl;have hl3:=hx3.1;(try simp only[aC]);refine bz (fun S' H'=>Ext H H'/\∃w b,(H.length<=b/\OwnG lo 5 H' w b (cat rnC (L3++if k<3 then[⟨i,3,k,0,false⟩] else[])))/\∃(z:Nat->Value),S'=[aA i,z 1,w,z 3,z 4,z 5,.int .i64 (k:Nat),z 7,z 8,z 9,z 10,z 11,z 12,z 13,z 14,z 15,z 16]) ?_ ?_
  ·by_cases hk3:k<3
   ·have hd:decide ((k:Int)<3)=true:=decide_eq_true byO
    rw[if_pos hk3];refine aN ?_ ?_<;>intro h
    ·clear h hd
     refine aE ?_;change wpS cp lo _ _ _ (H3++[some (rnC ⟨i,3,k,0,false⟩)]);have hxc:Ext H3 (H3++[some (rnC ⟨i,3,k,0,false⟩)]):=Ext.app _ _;have hgc:(H3++[some (rnC ⟨i,3,k,0,false⟩)]).get H3.length=some (cat rnC [⟨i,3,k,0,false⟩]):=aG;have hlc:=hxc.1;have hx4:=hx3.trans hxc;generalize H3++[some (rnC ⟨i,3,k,0,false⟩)]=H4 at hxc hgc hlc hx4;refine bR ?_;refine C0 (enc:=rnC) (rs:=[⟨i,3,k,0,false⟩]) byO rfl byO byO oA vG (ho.mono hxc) byO byO byO hgc ?_;intro w5 H5 hap;have hx5:=hap.ext hx4 hb;obtain⟨b5,k1,k2,k3,k4⟩:=hap;have hl4:=hx4.1;refine aE ?_;exact⟨hx5,w5,b5,⟨byO,k3⟩,aJ ncM⟩
    ·simp at h
   ·have hd:decide ((k:Int)<3)=false:=decide_eq_false byO
    rw[if_neg hk3];refine aN ?_ ?_<;>intro h
    ·simp at h
    ·clear h hd
     (try simp only[aC]);exact⟨hx3,w,b,⟨hb,by simpa using ho⟩,aJ rfl⟩
  clear hx3 ho hb hl3;rintro S' H3 ⟨hx3,w,b,⟨hb,ho⟩,z,rfl⟩;have hl3:=hx3.1;have hLl4:(L3++if k<3 then[(⟨i,3,k,0,false⟩:RN)] else[]).length<=101:=by split<;>simp<;>omega
  generalize (L3++if k<3 then[(⟨i,3,k,0,false⟩:RN)] else[])=L4 at ho hLl4 ⊢;refine aE ?_;change wpS cp lo _ _ _ (H3++[some (rnC ⟨i,4,k,0,false⟩)]);have hxc:Ext H3 (H3++[some (rnC ⟨i,4,k,0,false⟩)]):=Ext.app _ _;have hgc:(H3++[some (rnC ⟨i,4,k,0,false⟩)]).get H3.length=some (cat rnC [⟨i,4,k,0,false⟩]):=aG;have hlc:=hxc.1;have hx4:=hx3.trans hxc;generalize H3++[some (rnC ⟨i,4,k,0,false⟩)]=H4 at hxc hgc hlc hx4;refine bR ?_;refine C0 (enc:=rnC) (rs:=[⟨i,4,k,0,false⟩]) byO rfl byO byO oA vG (ho.mono hxc) byO byO byO hgc ?_;intro w5 H5 hap;have hx5:=hap.ext hx4 hb;obtain⟨b5,k1,k2,k3,k4⟩:=hap;have hl4:=hx4.1;refine aE ?_;exact⟨hx5,w5,b5,⟨byO,k3⟩,aJ ncM⟩
 ·rintro S H3 ⟨hx3,w,b,⟨hb,ho⟩,z,rfl⟩
  refine aE ?_;refine dB ?_;exact⟨hx3,b,hb,ho⟩
end
end Go.Proofs.YtmnlgdpdgjbfgaaGreat
