/- Lemmas. -/
import Derived.Test.YtmnlgdpdgjbfgaaGreatF31
import Derived.Test.YtmnlgdpdgjbfgaaGreatF33
set_option linter.all false
namespace Go.Proofs.YtmnlgdpdgjbfgaaGreat
open Go.Abs
variable{p:List UInt8}{i:Nat}
set_option maxRecDepth 20000
section
variable {lo:Nat}{H:Heap}{v:Value}{p:List UInt8}
open XYe
set_option maxHeartbeats 3200000 in
theorem RR(hp:SlU H v p)(hl:p.length<=4096)(hlo:lo<=H.length):Ev cp lo 25 [v] H (fun r H'=>Ext H H'/\∃C w b,SolR p C/\r=.tuple #[w,aB 0]/\H.length<=b/\Own lo 1 H' w b (uN (mf p C (mea C (asR 0)+1) (asR 0) [] []))):=by
 obtain⟨ad,c,ev⟩:=hp.len;subst ev;refine stG rfl rfl ?_;unfold QA;simp only[kB,aD];refine aA ?_;refine aP ?_ ?_<;>intro h
 ·grind
 clear h;refine bF ?_;refine aC (NY (lo:=lo) hp hl hlo) ?_;rintro r H1 ⟨hx1,C,hNew,rfl,hco⟩;have hsol:=GR hNew;clear hNew;have hl1:=hx1.1;have hkl1:=Heap.get_lt hco.c;have hinv:=DB hsol hl;obtain⟨R0,hR0⟩:∃R0,False\/mf p C (mea C (asR 0)+1) (asR 0) [] []=R0:=⟨_,.inr rfl⟩;obtain⟨f0,hf0⟩:∃f0,f0=mea C (asR 0)+1:=⟨_,rfl⟩;have hR00:=hR0;rw[<-hf0]at hR0;have hf1:mea C (asR 0)<f0:=byO;refine aA ?_;have hd0:HdE lo H1.length H1 (H1++[some (rnC (asR 0))]) (asR 0) (.slice none 0 0) (.slice none 0 0) [] []:=HdE.start byO;change wpS cp lo _ _ _ (H1++[some (rnC (asR 0))]);generalize H1++[some (rnC (asR 0))]=H2 at hd0;refine aY (fun m S H'=>∃nb n w q W Pt,((HdE lo nb H1 H' n w q W Pt/\InvR p C 70000 n W Pt)/\mea C n<m/\(False\/mf p C m n W Pt=R0))/\∃(z:Nat->Value),S=[.slice ad p.length c,z 1,z 2,coV H.length p,w,q,ptr nb,z 7,z 8,z 9,z 10,z 11,z 12,z 13,z 14,z 15,z 16,z 17,z 18,z 19,z 20,z 21,z 22,z 23,z 24,z 25,z 26,z 27,z 28,z 29,z 30,z 31,z 32,z 33,z 34,z 35,z 36,z 37,z 38,z 39,z 40,z 41,z 42,z 43,z 44,z 45,z 46,z 47,z 48,z 49]) f0 ⟨H1.length,asR 0,_,_,[],[],⟨⟨hd0,hinv⟩,hf1,hR0⟩,aH rfl⟩ ?_;clear hd0 hinv hf1 hR0 hf0;rintro m S H3 ⟨nb,n,w,q,W,Pt,⟨⟨hd,hi⟩,hm,hR⟩,z,rfl⟩;obtain⟨m,rfl⟩:∃m',m=m'+1:=⟨m-1,byO⟩;have hxd:=hd.ext;have hn0:=hd.nn;have hld:=hxd.1;have hn1:=hi.ok.i;have hn2:=hi.ok.m;have hgn:H3.get nb=some [aB n.i,aB n.m,aB n.ph,aB n.s,.bool n.u]:=hd.gn;by_cases he:rU p n
 ·have he1:n.m<=0/\p.length<=n.i:=by grind[rU]
  have hRW:mf p C (m+1) n W Pt=W:=by
   show(if n.m≠0\/n.i<p.length then _ else W)=W
   grind
  rw[hRW]at hR;have d1:decide ((n.m:Int)≠0)=false:=decide_eq_false byO;have d2:decide ((n.i:Int)<(p.length:Nat))=false:=decide_eq_false byO;clear hRW;obtain⟨bw,bq,g1,⟨g2,g3⟩,g4,g5,g6⟩:=hd.tw;clear hi hm;(try simp only[aD]);refine aP ?_ ?_<;>intro h
  ·simp_all
  ·clear h
   refine aA ?_;refine aK ?_;refine⟨hx1.trans hxd,C,w,bw,hsol,rfl,byO,?_⟩
   simp_all
 ·have hcc:(!decide ((n.m:Int)=0) || decide ((n.i:Int)<(p.length:Nat)))=true:=by
   have:¬ (n.m=0/\n.i=p.length):=he
   grind
  have hRW:mf p C (m+1) n W Pt=mf p C m (de p n C).to (eQ p n (de p n C) W Pt).1 (eQ p n (de p n C) W Pt).2:=by
   have:¬ (n.m=0/\n.i=p.length):=he;show(if n.m≠0\/n.i<p.length then _ else W)=_
   simp_all
  rw[hRW]at hR;clear hRW;obtain⟨hx,ht,_⟩:=kT hsol hi.ok hi.fin he;have hmm:=(tB hi.ok hx ht).1;have hinv:=Fj hi hx ht;have hxok:=mY hi.ok _ hx;have hco3:=hco.ext hxd;clear hR00;(try simp only[aD]);refine aP ?_ ?_<;>intro h
  ·clear h
   refine bF ?_;refine aC (IH (n:=n) hco3 hi.ok byO) ?_;rintro r H4 ⟨hx4,rfl⟩;generalize de p n C=x at hx ht hmm hinv hxok hR ⊢;have hl4:=hx4.1;refine aA ?_;have hst:StE lo nb H4.length H1 (H4++[some (rsC x)]) n x w q W Pt:=hd.st (hx4.trans (Ext.app _ _)) aF hl4;change wpS cp lo _ _ _ (H4++[some (rsC x)]);generalize H4.length=xb at hst;generalize H4++[some (rsC x)]=H5 at hst;clear hd hgn hxd hld hx4 hl4 hco3 hcc;refine c8 (fun S' H'=>∃w q,StE lo nb xb H1 H' n x w q (eQ p n x W Pt).1 (eQ p n x W Pt).2/\∃(z:Nat->Value),S'=[.slice ad p.length c,z 1,z 2,coV H.length p,w,q,ptr nb,ptr xb,z 8,z 9,z 10,z 11,z 12,z 13,z 14,z 15,z 16,z 17,z 18,z 19,z 20,z 21,z 22,z 23,z 24,z 25,z 26,z 27,z 28,z 29,z 30,z 31,z 32,z 33,z 34,z 35,z 36,z 37,z 38,z 39,z 40,z 41,z 42,z 43,z 44,z 45,z 46,z 47,z 48,z 49]) ?_ ?_
   ·have hWl:W.length<=70000/\Pt.length<=70000:=by have:=hi.sz;omega
    obtain⟨hWl,hPl⟩:=hWl;have hgx:H5.get xb=some [aB x.w,.int .i64 x.s,.int .i64 x.t,aB x.c,aB x.to.i,aB x.to.m,aB x.to.ph,aB x.to.s,.bool x.to.u]:=hst.gx;have hgn:H5.get nb=some [aB n.i,aB n.m,aB n.ph,aB n.s,.bool n.u]:=hst.gn;have hpv:=hp.mono (hx1.trans hst.ext);clear hR hinv hmm ht;unfold bx at hx;unfold eQ;by_cases hm0:n.m=0
    ·rw[if_pos hm0]at hx
     simp only[if_pos hm0];have dm0:decide ((n.m:Int)=0)=true:=decide_eq_true byO;replace hm0:n.m<=0:=byO;rcases jg hi.ok hx with ⟨d,hd,hdl,hrun⟩|⟨hw,hxt,hph,hs⟩
     ·obtain⟨s1,hs1,hs1l⟩:∃s1:Nat,x.s=(s1:Int)/\s1<=2000:=by
       rw[hrun];unfold dJ;split
       ·grind
       ·exact⟨d/250+249,rfl,byO⟩
      have ht1:x.t=-1\/∃t1:Nat,x.t=(t1:Int)/\t1<=2000:=by
       rw[hrun];unfold dJ;split
       ·simp_all
       ·exact .inr ⟨d%250,rfl,byO⟩
      have hw:x.w=231:=by grind[dJ]
      have hti:x.to.i=n.i+d:=by rw[hrun];unfold dJ;split<;>rfl
      have hdd:x.to.i-n.i=d:=byO;rw[if_pos hw,hdd];have hse:∀W,HC x W=W++[(s1+msk W.length)%256]:=fun W=>by grind[HC]
      have hte:∀W,(x.t=-1/\wk x W=W)\/∃t1:Nat,(x.t=(t1:Int)/\t1<=2000)/\wk x W=W++[(t1+msk W.length)%256]:=fun W=>by
       unfold wk;rcases ht1 with h|⟨t1,h,h2⟩
       ·simp_all
       ·exact .inr ⟨t1,⟨h,h2⟩,by simp_all⟩
      replace hse:False\/_:=.inr hse;replace hte:False\/_:=.inr hte;clear hrun hdd ht1 hx;have dw:decide ((x.w:Int)=231)=true:=decide_eq_true byO;obtain⟨xw,xs,xt,xc,xto⟩:=x;simp only at hw hs1 hti hgx dw;subst hs1;replace hti:xto.i<=n.i+d/\n.i+d<=xto.i:=byO;replace hw:False\/xw=231:=.inr hw;refine bL ?_;clear dw dm0;refine aA ?_;change wpS cp lo _ _ _ (H5++[some (uN [231])]);refine aT ?_;refine hst.litW (L:=[231]) rfl byO byO ?_;intro w6 H6 hst6 hl6;clear hgx hgn hpv;have hgx:H6.get xb=some [aB xw,aB s1,.int .i64 xt,aB xc,aB xto.i,aB xto.m,aB xto.ph,aB xto.s,.bool xto.u]:=hst6.gx;obtain⟨aw6,rfl⟩:=hst6.sl;have hW6:(W++[231]).length<=70001:=by simp_all
      generalize W++[231]=W6 at hst6 hW6 ⊢;rw[hse.resolve_left id];refine aA ?_;refine aT ?_;refine aC (EE (x:=s1) (k:=W6.length) byO byO) ?_;rintro r H7 ⟨rfl,rfl⟩;have hmb:(s1+msk W6.length)%256<256:=Nat.mod_lt _ byO;generalize (s1+msk W6.length)%256=r1 at hmb ⊢;refine aA ?_;change wpS cp lo _ _ _ (H6++[some (uN [r1])]);refine aT ?_;refine hst6.litW (L:=[r1]) rfl byO byO ?_;intro w7 H7 hst7 hl7;have hW7:(W6++[r1]).length<=70002:=by simp_all
      generalize W6++[r1]=W7 at hst7 hW7 ⊢;clear hgx hst6 hse hW6;have hgx:H7.get xb=some [aB xw,aB s1,.int .i64 xt,aB xc,aB xto.i,aB xto.m,aB xto.ph,aB xto.s,.bool xto.u]:=hst7.gx;refine aA ?_;refine ba (fun S' H'=>∃w q,StE lo nb xb H1 H' n ⟨xw,s1,xt,xc,xto⟩ w q (wk ⟨xw,s1,xt,xc,xto⟩ W7) Pt/\∃(z:Nat->Value),S'=[.slice ad p.length c,z 1,z 2,coV H.length p,w,q,ptr nb,ptr xb,z 8,z 9,z 10,z 11,z 12,z 13,z 14,z 15,z 16,z 17,z 18,z 19,z 20,z 21,z 22,z 23,z 24,z 25,z 26,z 27,z 28,z 29,z 30,z 31,z 32,z 33,z 34,z 35,z 36,z 37,z 38,z 39,z 40,z 41,z 42,z 43,z 44,z 45,z 46,z 47,z 48,z 49]) ?_ ?_
      ·rcases hte.resolve_left id W7 with ⟨hxt,hthi⟩|⟨t1,⟨hxt,ht1⟩,hthi⟩
       ·rw[hthi]
        clear hte hthi;have dd:decide (xt>=0)=false:=decide_eq_false (by simp_all);clear hxt;refine an ?_
        ·(try simp only[aD])
         exact⟨_,_,hst7,aH ncM⟩
       ·rw[hthi]
        clear hte hthi;simp only at hxt;subst hxt;have dd:decide ((t1:Int)>=0)=true:=decide_eq_true byO;refine bL ?_;clear dd;obtain⟨aw7,rfl⟩:=hst7.sl;refine aA ?_;refine aT ?_;refine aC (EE (x:=t1) (k:=W7.length) byO byO) ?_;rintro r H8 ⟨rfl,rfl⟩;generalize (t1+msk W7.length)%256=r1;refine aA ?_;change wpS cp lo _ _ _ (H7++[some (uN [r1])]);refine aT ?_;refine hst7.litW (L:=[r1]) rfl byO byO ?_;intro w8 H8 hst8 hl8;refine aA ?_;exact⟨_,_,hst8,aH ncM⟩
      clear hst7 hgx hst hl6 hl7;rintro S' H8 ⟨w,q,hst8,z,rfl⟩;have hW8:(wk ⟨xw,s1,xt,xc,xto⟩ W7).length<=70010:=by
       grind
      generalize wk ⟨xw,s1,xt,xc,xto⟩ W7=W8 at hst8 hW8 ⊢;clear hte;have hgn:H8.get nb=some [aB n.i,aB n.m,aB n.ph,aB n.s,.bool n.u]:=hst8.gn;refine aA ?_;refine aS (fun k S H'=>∃w q,StE lo nb xb H1 H' n ⟨xw,s1,xt,xc,xto⟩ w q (ot p W8 n.i k) Pt/\∃(z:Nat->Value),S=[.slice ad p.length c,z 1,z 2,coV H.length p,w,q,ptr nb,ptr xb,.int .i64 ((n.i:Int)+(k:Nat)),z 9,z 10,z 11,z 12,z 13,z 14,z 15,z 16,z 17,z 18,z 19,z 20,z 21,z 22,z 23,z 24,z 25,z 26,z 27,z 28,z 29,z 30,z 31,z 32,z 33,z 34,z 35,z 36,z 37,z 38,z 39,z 40,z 41,z 42,z 43,z 44,z 45,z 46,z 47,z 48,z 49]) d ⟨w,q,hst8,aH (by simp)⟩ ?_ ?_ ?_
      ·rintro k S H' hk ⟨w,q,hst9,z,rfl⟩
       have hgx:H'.get xb=some [aB xw,aB s1,.int .i64 xt,aB xc,aB xto.i,aB xto.m,aB xto.ph,aB xto.s,.bool xto.u]:=hst9.gx;exact⟨decide ((n.i:Int)+(k:Nat)<(xto.i:Nat)),by simp_all[evB],by simp;omega⟩
      ·rintro k S H9 hk ⟨w,q,hst9,z,rfl⟩
       have hlz:=ov p W8 n.i k;replace hlz:(ot p W8 n.i k).length<=72000:=byO;have hrs:ot p W8 n.i (k+1)=ot p W8 n.i k++[(by' p (n.i+k)+msk (ot p W8 n.i k).length)%256]:=rfl;rw[hrs];clear hrs hst8 hW8 hgn;generalize ot p W8 n.i k=W9 at hst9 hlz ⊢;obtain⟨bb,oo,xs,hia,hgx,hxx⟩:=gN (hp.mono (hx1.trans hst9.ext)) (k:=n.i+k) byO;have hby:=(p.getD (n.i+k) 0).toNat_lt;replace hxx:xs[oo]?=some (.int .u8 ((p.getD (n.i+k) 0).toNat:Nat)):=hxx;have hbe:by' p (n.i+k)=(p.getD (n.i+k) 0).toNat:=rfl;rw[hbe];clear hbe;generalize (p.getD (n.i+k) 0).toNat=y at hxx hby ⊢;simp only[ap₀]at hia;obtain⟨aw9,rfl⟩:=hst9.sl;refine aA ?_;refine aT ?_;refine aC (EE (x:=y) (k:=W9.length) byO byO) ?_;rintro r H10 ⟨rfl,rfl⟩;generalize (y+msk W9.length)%256=r1;refine aA ?_;change wpS cp lo _ _ _ (H9++[some (uN [r1])]);refine aT ?_;refine hst9.litW (L:=[r1]) rfl byO byO ?_;intro w10 H10 hst10 hl10;refine aA ?_;exact⟨_,_,hst10,aH ncM⟩
      ·rintro S H9 ⟨w,q,hst9,z,rfl⟩
       (try simp only[aD]);exact⟨_,_,hst9,aH ncM⟩
     ·rw[if_neg hw]
      have dw:decide ((x.w:Int)=231)=false:=decide_eq_false byO;have hxw:=hxok.w;clear hx hxt hph hxok;refine an ?_;(try simp only[aD]);refine bL ?_;clear dw dm0;refine aA ?_;change wpS cp lo _ _ _ (H5++[some (uN [x.w])]);refine aT ?_;refine hst.litW (L:=[x.w]) rfl byO byO ?_;intro w6 H6 hst6 hl6;clear hgx hgn;have hgx:H6.get xb=some [aB x.w,.int .i64 x.s,.int .i64 x.t,aB x.c,aB x.to.i,aB x.to.m,aB x.to.ph,aB x.to.s,.bool x.to.u]:=hst6.gx;rcases hs with ⟨hs,_⟩|⟨ds,hds,hs,_⟩
      ·have dd:decide (x.s>=0)=false:=decide_eq_false byO
       rw[if_neg byO,List.append_nil];replace hs:False\/x.s=-1:=.inr hs;refine aA ?_;refine an ?_
       ·(try simp only[aD])
        exact⟨_,_,hst6,aH ncM⟩
      ·have dd:decide (x.s>=0)=true:=decide_eq_true byO
       have htn:x.s.toNat=ds:=byO;rw[if_pos byO,htn];clear htn;obtain⟨xw,xs,xt,xc,xto⟩:=x;simp only at hs hgx hst6 dd ⊢;subst hs;refine aA ?_;refine bL ?_;clear dd;refine aA ?_;change wpS cp lo _ _ _ (H6++[some (uN [ds])]);refine aT ?_;refine hst6.litW (L:=[ds]) rfl byO (by grind) ?_;intro w7 H7 hst7 hl7;refine aA ?_;exact⟨_,_,hst7,aH ncM⟩
    have dm0:decide ((n.m:Int)=0)=false:=decide_eq_false byO;rw[if_neg hm0]at hx;simp only[if_neg hm0];refine an ?_;(try simp only[aD]);refine an ?_;clear dm0;(try simp only[aD]);by_cases hm4:n.m=4
    ·rw[if_neg byO]at hx
     simp only[if_pos hm4];have dm4:decide ((n.m:Int)=4)=true:=decide_eq_true byO;have hpt:=hi.ptv;have hxw:x.w<64:=by
      rcases(lO hx).2 with rfl|⟨_,rfl⟩
      all_goals grind
     replace hm4:n.m<=4/\4<=n.m:=byO;clear hx hm0;refine bL ?_;clear dm4;refine aA ?_;change wpS cp lo _ _ _ (H5++[some (uN [x.w])]);refine aT ?_;refine hst.litP (L:=[x.w]) rfl byO byO ?_;intro q6 H6 hst6 hl6;have hP6:(Pt++[x.w]).length<=70001/\1<=(Pt++[x.w]).length:=by simp_all
     have hpt6:=mG hpt hxw;clear hgx hgn;have hgx:H6.get xb=some [aB x.w,.int .i64 x.s,.int .i64 x.t,aB x.c,aB x.to.i,aB x.to.m,aB x.to.ph,aB x.to.s,.bool x.to.u]:=hst6.gx;by_cases hw:x.w=31
     ·have dw:decide ((x.w:Int)=31)=true:=decide_eq_true byO
      have hrp:(if x.w=31 then(W++cQ (Pt++[31]),([]:List Nat)) else(W,Pt++[x.w]))=(W++cQ (Pt++[x.w]),[]):=by simp_all
      rw[hrp];clear hrp;generalize Pt++[x.w]=P6 at hst6 hP6 hpt6 ⊢;replace hw:x.w<=31/\31<=x.w:=byO;obtain⟨bw6,bq6,g1,⟨g2,g3⟩,g4⟩:=hst6.tw;refine aA ?_;refine bL ?_;clear dw;refine bF ?_;refine aC (Jf (lo:=lo) g3 byO hpt6 (by have:=hst6.lb;have:=hst6.ext.1;omega)) ?_;rintro r H7 ⟨hx7,rfl,hg7⟩;clear g1 g2 g3 g4;have hst7:=hst6.mono hx7;have hpk:=pY P6;refine aA ?_;refine aT ?_;refine hst7.appW (L:=cQ P6) hg7 (by grind[List.take_of_length_le]) byO hpk (by simp;omega) byO ?_;intro w8 H8 hst8 hl8;refine aA ?_;exact⟨_,_,hst8.nil,aH ncM⟩
     ·have dw:decide ((x.w:Int)=31)=false:=decide_eq_false byO
      rw[if_neg hw];refine aA ?_;refine an ?_
      ·(try simp only[aD])
       exact⟨_,_,hst6,aH ncM⟩
    have dm4:decide ((n.m:Int)=4)=false:=decide_eq_false byO;rw[if_pos hm4]at hx;simp only[if_neg hm4];have hp3:=hi.pt3 byO;have hph:=hi.ok.ph.2.1 hm4;have hpt:=hi.ptv;have hxw:x.w<=254:=by
     rcases eZ 40 byO hx with ⟨rfl,_⟩|⟨v,t,hv,hu,rfl⟩
     all_goals grind
    clear hx;refine an ?_;clear dm4;by_cases hw:x.w=254
    ·have dw:decide ((x.w:Int)=254)=true:=decide_eq_true byO
     rw[if_pos hw];replace hw:x.w<=254/\254<=x.w:=byO;(try simp only[aD]);refine bL ?_;clear dw;refine aA ?_;change wpS cp lo _ _ _ (H5++[some (uN [254])]);refine aT ?_;refine hst.litW (L:=[254]) rfl byO byO ?_;intro w6 H6 hst6 hl6;refine aA ?_;exact⟨_,_,hst6,aH ncM⟩
    have dw:decide ((x.w:Int)=254)=false:=decide_eq_false byO;rw[if_neg hw];(try simp only[aD]);refine an ?_;clear dw;refine aA ?_;change wpS cp lo _ _ _ (H5++[some (uN [x.w])]);refine aT ?_;refine hst.litP (L:=[x.w]) rfl byO byO ?_;intro q6 H6 hst6 hl6;clear hgx hgn hpv;by_cases h2:Pt.length=2
    ·rw[if_pos h2]
     obtain⟨u,v,rfl⟩:∃u v,Pt=[u,v]:=by
      match Pt,h2 with
      | [u,v],_=>simp_all
     have hu:=hpt 0;have hv:=hpt 1;simp only[List.getD_cons_zero,List.getD_cons_succ]at hu hv;have htr:trR [u,v] x.w=1600*u+40*v+x.w+1:=rfl;rw[htr];clear htr;obtain⟨aq6,hq6,hgq⟩:∃b,q6=.slice (some ⟨b,0,some 1⟩) 3 3/\H6.get b=some (uN [u,v,x.w]):=by
      obtain⟨bw6,bq6,g1,⟨g2,g3⟩,g4⟩:=hst6.tw;obtain⟨_,⟨_,h⟩|⟨k,h0,h1,h2,hg⟩⟩:=g3
      all_goals simp_all
     subst hq6;replace hgq:H6.get aq6=some [aB u,aB v,aB x.w]:=hgq;have e1:1600*(u:Int)+40*(v:Int)+(x.w:Int)+1=((1600*u+40*v+x.w+1:Nat):Int):=byO;have hbN:1600*u+40*v+x.w+1<=200000:=byO;generalize 1600*u+40*v+x.w+1=N at e1 hbN ⊢;have e2:(N:Int).tdiv 256=((N/256:Nat):Int):=by simp_all
     have e3:(N:Int).tmod 256=((N%256:Nat):Int):=by grind
     have hb1:N/256<=1000:=byO;generalize N/256=N1 at e2 hb1 ⊢;generalize N%256=N2 at e3 ⊢;refine aA ?_;refine bL ?_;refine aA ?_;change wpS cp lo _ _ _ (H6++[some (uN [N1,N2])]);refine aT ?_;refine hst6.litW (L:=[N1,N2]) rfl byO byO ?_;intro w8 H8 hst8 hl8;refine aA ?_;exact⟨_,_,hst8.nil,aH ncM⟩
    ·rw[if_neg h2]
     obtain⟨aq6,hq6⟩:=hst6.swap.sl;have hl6:(Pt++[x.w]).length<=2:=by grind
     obtain⟨lq,hlq⟩:∃lq,False\/(Pt++[x.w]).length=lq:=⟨_,.inr rfl⟩;rw[hlq.resolve_left id]at hq6 hl6;subst hq6;have dl:decide ((lq:Int)=3)=false:=decide_eq_false byO;refine aA ?_;refine an ?_
     ·(try simp )
      exact⟨_,_,hst6,aH ncM⟩
   rintro S' H6 ⟨w,q,hst6,z,rfl⟩;generalize eQ p n x W Pt=e at hinv hR hst6;obtain⟨W',Pt'⟩:=e;have hmx:mea C x.to<m:=byO;refine c8 (fun S' H'=>StE lo nb xb H1 H' x.to x w q W' Pt'/\∃(z:Nat->Value),S'=[.slice ad p.length c,z 1,z 2,coV H.length p,w,q,ptr nb,ptr xb,z 8,z 9,z 10,z 11,z 12,z 13,z 14,z 15,z 16,z 17,z 18,z 19,z 20,z 21,z 22,z 23,z 24,z 25,z 26,z 27,z 28,z 29,z 30,z 31,z 32,z 33,z 34,z 35,z 36,z 37,z 38,z 39,z 40,z 41,z 42,z 43,z 44,z 45,z 46,z 47,z 48,z 49]) ?_ ?_
   ·have hgx:H6.get xb=some [aB x.w,.int .i64 x.s,.int .i64 x.t,aB x.c,aB x.to.i,aB x.to.m,aB x.to.ph,aB x.to.s,.bool x.to.u]:=hst6.gx
    have hgn:H6.get nb=some [aB n.i,aB n.m,aB n.ph,aB n.s,.bool n.u]:=hst6.gn;have hnl:=Heap.get_lt hgn;have hnn:=hst6.nn;have hlb:=hst6.lb;refine aA ?_;exact⟨hst6.node keepSet (aG byO),aH rfl⟩
   rintro S' H7 ⟨hst7,z,rfl⟩;have hgn:H7.get nb=some [aB x.to.i,aB x.to.m,aB x.to.ph,aB x.to.s,.bool x.to.u]:=hst7.gn;have hlb:=hst7.lb;have hle:=hst7.ext.1;refine aA ?_;have hd8:HdE lo H7.length H1 (H7++[some (rnC x.to)]) x.to w q W' Pt':=hst7.hd (Ext.app _ _) aF (Nat.le_refl _);exact⟨m,byO,_,x.to,w,q,W',Pt',⟨⟨hd8,hinv⟩,hmx,hR⟩,aH rfl⟩
  grind
end
def stO(n:RN):Nat:=if n.m=0 then 0 else if n.m=1 then stV 1 n.s n.u else if n.m=2 then stV 9 n.s n.u else if n.m=3 then 17 else 18
def ndO(i st:Nat):RN:=if st=0 then asR i else if st<9 then⟨i,1,0,(st-1)%4,decide (4<=st-1)⟩ else if st<17 then⟨i,2,0,(st-9)%4,decide (4<=st-9)⟩ else if st=17 then⟨i,3,0,0,false⟩ else⟨i,4,0,0,false⟩
theorem vy{N i st:Nat}(hi:i<=N)(hs:st<19):(ndO i st).ok N/\(ndO i st).ph=0/\stO (ndO i st)=st/\(ndO i st).i=i:=by
 unfold ndO;by_cases h0:st=0
 ·rw[if_pos h0]
  exact⟨gO hi,rfl,h0.symm,rfl⟩
 ·rw[if_neg h0]
  by_cases h9:st<9
  ·rw[if_pos h9]
   refine⟨⟨hi,by simp,⟨by simp,fun _=>by simp,fun _=>rfl⟩,by grind,fun e=>by simp_all⟩,rfl,?_,rfl⟩;show stV 1 ((st-1)%4) (decide (4<=st-1))=st
   grind[stV,iM]
  ·rw[if_neg h9]
   by_cases h17:st<17
   ·rw[if_pos h17]
    refine⟨⟨hi,by simp,⟨by simp,fun _=>by simp,fun _=>rfl⟩,by grind,fun e=>by simp_all⟩,rfl,?_,rfl⟩;show stV 9 ((st-9)%4) (decide (4<=st-9))=st
    grind[stV,iM]
   ·rw[if_neg h17]
    by_cases h18:st=17
    ·rw[if_pos h18]
     exact⟨⟨hi,by simp,⟨by simp,fun _=>by simp,fun _=>rfl⟩,by simp,fun _=>⟨rfl,rfl⟩⟩,rfl,h18.symm,rfl⟩
    ·rw[if_neg h18]
     exact⟨⟨hi,by simp,⟨by simp,fun e=>absurd rfl e,fun _=>rfl⟩,by simp,fun _=>⟨rfl,rfl⟩⟩,rfl,(by show 18=st;omega),rfl⟩
theorem wg{N:Nat}{n:RN}(h:n.ok N):stO n<19:=by
 grind[stO,stV,iM,RN.ok.s]
theorem pT{N:Nat}{n:RN}(h:n.ok N)(hp:n.ph=0):ndO n.i (stO n)=n:=by
 obtain⟨h1,h2,h3,h6,h7⟩:=h;obtain⟨i,m,ph,s,u⟩:=n;simp only at *;subst hp;have hm:m=0\/m=1\/m=2\/m=3\/m=4:=byO;rcases hm with rfl|rfl|rfl|rfl|rfl
 ·obtain⟨rfl,rfl⟩:=h7 (.inl rfl);rfl
 ·have hx:s=0\/s=1\/s=2\/s=3:=byO
  rcases hx with rfl|rfl|rfl|rfl<;>cases u<;>simp[stO,stV,iM,ndO]
 ·have hx:s=0\/s=1\/s=2\/s=3:=byO
  rcases hx with rfl|rfl|rfl|rfl<;>cases u<;>simp[stO,stV,iM,ndO]
 ·obtain⟨rfl,rfl⟩:=h7 (.inr (by decide));rfl
 ·obtain⟨rfl,rfl⟩:=h7 (.inr (by decide));rfl
theorem tH{i m ph s v:Nat}{u:Bool}:dW p ⟨i,m,ph,s,u⟩ v=if m≠3/\s=0/\v<3 then some ⟨i,m,(ph+1)%3,v+1,u⟩
 else if m≠3/\s=2/\v=30/\u=false then some ⟨i,m,(ph+1)%3,0,true⟩
 else if i<p.length/\by' p i=(if m=3 then lz v else if fi (m==2) s v=128 then 256 else fi (m==2) s v+if u then 128 else 0) then some ⟨i+1,m,(ph+1)%3,0,false⟩ else none:=rfl
theorem sK{a s m ph:Nat}{up:Bool}{x:Mv}(hm:m=1\/m=2)(h:x ∈ jH p a s up (m==2)):x.v<40/\dW p ⟨a,m,ph,s,up⟩ x.v=some ⟨x.a,m,(ph+1)%3,x.s,x.u⟩:=by
 have hm3:m≠3:=byO;rw[tH,if_neg hm3];unfold jH at h;rw[be₀,be₀]at h;rcases h with (h|h)|h
 ·unfold mvA at h
  split at h
  ·rename_i hs
   unfold mv3 at h;obtain⟨i,hi,rfl⟩:=List.mem_map.1 h;have:=List.mem_range.1 hi;refine⟨by simp only;omega,?_⟩;dsimp only;rw[if_pos ⟨hm3,hs,this⟩]
  ·cases h
 ·unfold mvB at h
  split at h
  ·rename_i hc
   obtain⟨h1,h2,h3⟩:=hc;obtain rfl:=List.mem_singleton.1 h;have hb:=qA p a;have h128:by' p a%128<128:=Nat.mod_lt _ byO;obtain⟨g1,g2,g3⟩:=Cf (b:=m==2) h128;have hle:=p6 (m==2) _ h128;rw[h2]at g1 g2 g3;refine⟨by simp only;omega,?_⟩;dsimp only;rw[if_neg (fun e=>by have:=g2 e.2.1;have:=e.2.2;omega),if_neg (fun e=>g3 e.2.1 e.2.2.1),g1,if_neg (show ¬ by' p a%128=128 by omega)];have hy:by' p a=by' p a%128+if up=true then 128 else 0:=by
    by_cases hb2:128<=by' p a
    ·rw[h3,decide_eq_true hb2];simp only[if_true];omega
    ·rw[h3,decide_eq_false hb2];simp only[ah₀,if_false];omega
   rw[if_pos ⟨h1,hy⟩]
  ·cases h
 ·unfold mvD at h
  split at h
  ·rename_i hc
   obtain⟨rfl,rfl⟩:=hc;obtain rfl:=List.mem_singleton.1 h;refine⟨by simp,?_⟩;dsimp only;rw[if_neg (fun e=>by have:=e.2.1;omega),if_pos ⟨hm3,rfl,rfl,rfl⟩]
  ·cases h
theorem tJ{a s m ph v:Nat}{up:Bool}{t:RN}(hm:m=1\/m=2)(hs:s<=3)(hv:v<40)(h:dW p ⟨a,m,ph,s,up⟩ v=some t):⟨v,t.i,t.s,t.u⟩ ∈ jH p a s up (m==2):=by
 have hm3:m≠3:=byO;rw[tH,if_neg hm3]at h;unfold jH;rw[be₀,be₀];by_cases hc:m≠3/\s=0/\v<3
 ·rw[if_pos hc]at h
  cases h;refine .inl (.inl ?_);unfold mvA mv3;rw[if_pos hc.2.1];exact List.mem_map.2 ⟨v,List.mem_range.2 hc.2.2,rfl⟩
 ·rw[if_neg hc]at h
  by_cases hc:m≠3/\s=2/\v=30/\up=false
  ·rw[if_pos hc]at h
   obtain⟨_,rfl,rfl,rfl⟩:=hc;cases h;refine .inr ?_;unfold mvD;rw[if_pos ⟨rfl,rfl⟩];simp
  ·rw[if_neg hc]at h
   have hb:=qA p a;by_cases hne:fi (m==2) s v=128
   ·rw[if_pos hne,if_neg (fun e=>by have:=e.2;omega)]at h
    cases h
   ·rw[if_neg hne]at h
    by_cases hc:a<p.length/\by' p a=fi (m==2) s v+if up=true then 128 else 0
    ·rw[if_pos hc]at h
     cases h;obtain⟨h1,h2⟩:=hc;have hlt:=IJ hv hne;have hpl:=D0 (b:=m==2) byO hv hne;have hmod:by' p a%128=fi (m==2) s v:=by rw[h2];split<;>omega
     refine .inl (.inr ?_);unfold mvB;have hup:up=decide (128<=by' p a):=by
      rw[h2];cases up
      ·simp only[ah₀,if_false,Nat.add_zero];exact(decide_eq_false byO).symm
      ·simp only[if_true];exact(decide_eq_true byO).symm
     rw[hmod,hpl,if_pos ⟨h1,rfl,hup⟩];simp
    ·rw[if_neg hc]at h
     cases h
def Tri(p:List UInt8)(n:RN)(u v w:Nat)(t:RN):Prop:=∃t1 t2,(dW p n u=some t1/\dW p t1 v=some t2/\dW p t2 w=some t)/\u<40/\v<40/\w<40
theorem db{N:Nat}{n t:RN}{v:Nat}(hN:p.length=N)(h:n.ok N)(hm:1<=n.m/\n.m<=3)(hu:dW p n v=some t):t.ok N/\t.m=n.m/\t.ph=(n.ph+1)%3:=by
 grind[zE,tI]
theorem wv{n t:RN}{u v w:Nat}(h:n.ok p.length)(hm:1<=n.m/\n.m<=3)(hp:n.ph=0)(ht:Tri p n u v w t):t.ok p.length/\t.m=n.m/\t.ph=0:=by
 obtain⟨t1,t2,⟨h1,h2,h3⟩,_⟩:=ht;obtain⟨a1,a2,a3⟩:=db rfl h hm h1;obtain⟨b1,b2,b3⟩:=db rfl a1 byO h2
 grind[db]
theorem P8{n:RN}(hm:n.m=1\/n.m=2):∃first,It first (n.m==2)/\stO n=stV first n.s n.u:=by
 rcases hm with h|h
 ·exact⟨1,.inl ⟨rfl,by rw[h];rfl⟩,by grind[stO]⟩
 ·exact⟨9,.inr ⟨rfl,by rw[h];rfl⟩,by grind[stO]⟩
theorem CM{n t:RN}{first:Nat}(hm:n.m=1\/n.m=2)(hc:It first (n.m==2))(ht:t.m=n.m):stO t=stV first t.s t.u:=by
 grind[It,stO]
theorem yT{p:List UInt8}{n:RN}{o:Opt}(hn:n.ok p.length)(hm:1<=n.m/\n.m<=3)(hp:n.ph=0):o ∈ iI p n.i (stO n)↔o=eu n.i\/∃u v w t,Tri p n u v w t/\o=jh u v w t.i (stO t):=by
 by_cases h12:n.m=1\/n.m=2
 ·obtain⟨first,hct,hst⟩:=P8 h12
  have hs3:=hn.s.1;rw[hst,(PD hct byO (p:=p)).1,List.mem_cons];refine or_congr Iff.rfl ?_;unfold wq tX tF;obtain⟨i,m,ph,s,up⟩:=n;simp only at *;subst hp;constructor
  ·intro h
   obtain⟨mu,hu,h⟩:=List.mem_flatMap.1 h;obtain⟨mv,hv,h⟩:=List.mem_flatMap.1 h;obtain⟨mw,hw,rfl⟩:=List.mem_map.1 h;obtain⟨u1,u2⟩:=sK (ph:=0) h12 hu;obtain⟨v1,v2⟩:=sK (ph:=1) h12 hv;obtain⟨w1,w2⟩:=sK (ph:=2) h12 hw;refine⟨mu.v,mv.v,mw.v,_,⟨_,_,⟨u2,v2,w2⟩,u1,v1,w1⟩,?_⟩;have e:=CM (n:=⟨i,m,0,s,up⟩) (t:=⟨mw.a,m,(2+1)%3,mw.s,mw.u⟩) h12 hct rfl;rw[e];rfl
  ·rintro⟨u,v,w,t,⟨t1,t2,⟨h1,h2,h3⟩,hu,hv,hw⟩,rfl⟩
   obtain⟨a1,a2,a3⟩:=db rfl hn hm h1;simp only at a2 a3;obtain⟨b1,b2,b3⟩:=db rfl a1 byO h2;obtain⟨c1,c2,c3⟩:=db rfl b1 byO h3;have e1:=tJ h12 hs3 hu h1;obtain⟨i1,m1,ph1,s1,u1⟩:=t1;simp only at a2 a3 b2 b3 e1;subst a2;have e2:=tJ h12 a1.s.1 hv h2;obtain⟨i2,m2,ph2,s2,u2⟩:=t2;simp only at b2 b3 c2 c3 e2;subst b2;have e3:=tJ h12 b1.s.1 hw h3;refine List.mem_flatMap.2 ⟨_,e1,List.mem_flatMap.2 ⟨_,e2,List.mem_map.2 ⟨_,e3,?_⟩⟩⟩;rw[CM (n:=⟨i,m2,0,s,up⟩) h12 hct c2];rfl
 ·have h3:n.m=3:=byO
  obtain⟨i,m,ph,s,up⟩:=n;obtain⟨rfl,rfl⟩:=hn.s.2 (.inr byO);simp only at h3 hp;subst h3;subst hp;have hst:stO ⟨i,3,0,0,false⟩=17:=rfl;have hun:∀j ph v,dW p ⟨j,3,ph,0,false⟩ v=if j<p.length/\by' p j=lz v then some ⟨j+1,3,(ph+1)%3,0,false⟩ else none:=by
   intro j ph v;rw[tH,if_neg (fun e=>e.1 rfl),if_neg (fun e=>e.1 rfl)];rfl
  rw[hst];show o ∈ tL p i↔_;unfold tL;rw[List.mem_cons];refine or_congr Iff.rfl ?_;constructor
  ·intro h
   split at h
   ·rename_i hc
    obtain⟨c0,c1,c2,c3⟩:=hc;obtain rfl:=List.mem_singleton.1 h;have y1:=tM (qA p i) c1;have y2:=tM (qA p (i+1)) c2;have y3:=tM (qA p (i+2)) c3;have z1:=j7 (by' p i);have z2:=j7 (by' p (i+1));have z3:=j7 (by' p (i+2));refine⟨_,_,_,⟨i+3,3,0,0,false⟩,⟨⟨i+1,3,1,0,false⟩,⟨i+2,3,2,0,false⟩,⟨?_,?_,?_⟩,byO,byO,byO⟩,rfl⟩
    ·rw[hun,if_pos ⟨byO,y1.symm⟩]
    ·rw[hun,if_pos ⟨byO,y2.symm⟩]
    ·rw[hun,if_pos ⟨byO,y3.symm⟩]
   ·cases h
  ·rintro⟨u,v,w,t,⟨t1,t2,⟨h1,h2,h3⟩,hu,hv,hw⟩,rfl⟩
   rw[hun]at h1;split at h1
   ·rename_i g1
    cases h1;rw[hun]at h2;split at h2
    ·rename_i g2
     cases h2;rw[hun]at h3;split at h3
     ·rename_i g3
      cases h3;have y1:=wy hu;have y2:=wy hv;have y3:=wy hw;rw[<-g1.2]at y1;rw[<-g2.2]at y2;rw[<-g3.2]at y3;replace y3:dL (by' p (i+2))=w+1:=y3;rw[if_pos ⟨by have:=g3.1;omega,byO,byO,byO⟩,y1,y2,y3];simp[stO]
     ·cases h3
    ·cases h2
   ·cases h1
abbrev Cn(C:List Nat)(n:RN):Nat:=C.getD (eS n) 0
theorem mm{C:List Nat}(h:SolR p C){n:RN}(hn:n.ok p.length){x:RS}(hx:x ∈ bx p n):Cn C n<=x.c+Cn C x.to:=by
 show C.getD (eS n) 0<=_;rw[h.eq n hn];exact pF hx
def n7(C:List Nat)(o:Opt):Nat:=o.sz+o.run+Cn C (ndO o.nx o.md)
theorem iq{C:List Nat}(h:SolR p C){n:RN}(hn:n.ok p.length)(hf:Cn C n<1099511627776)(he:¬ rU p n){f:Nat}(hm:mea C n<f)(W Pt:List Nat):∃f1,mea C (de p n C).to<f1/\mf p C f n W Pt=mf p C f1 (de p n C).to (eQ p n (de p n C) W Pt).1 (eQ p n (de p n C) W Pt).2:=by
 obtain⟨hx,ht,_⟩:=kT h hn hf he;have:=(tB hn hx ht).1;obtain⟨g,rfl⟩:∃g,f=g+1:=⟨f-1,byO⟩;refine⟨g,byO,?_⟩;show(if n.m≠0\/n.i<p.length then _ else W)=_;have hi:=hn.i;have:¬ (n.m=0/\n.i=p.length):=he;rw[if_pos byO]
def EmO(p:List UInt8)(C:List Nat)(n:RN)(o:Opt):Prop:=∀f W Pt,mea C n<f->(n.m=4->Pt.length%4=0)->(n.m≠4->Pt=[])->(∀k,Pt.getD k 0<64) ->
 ∃f' W' Pt',mea C (ndO o.nx o.md)<f'/\mf p C f n W Pt=mf p C f' (ndO o.nx o.md) W' Pt'/\W'++cQ Pt'=(W++cQ Pt)++emit p (W++cQ Pt).length n.i o/\((ndO o.nx o.md).m=4->Pt'.length%4=0)/\((ndO o.nx o.md).m≠4->Pt'=[])/\(∀k,Pt'.getD k 0<64)
structure ChO (p:List UInt8)(C:List Nat)(n:RN)(o:Opt):Prop where
 mem:o ∈ iI p n.i (stO n)
 tot:n7 C o=Cn C n
 least:∀o' ∈ iI p n.i (stO n),n7 C o'=Cn C n->o'=o\/df (hd o) (hd o')<0
 em:EmO p C n o
def PR(i:Nat)(o:Opt)(y:RS):Prop:=(∃d,(1<=d/\d<=1749)/\o=dC i d/\y=dJ i d) \/
 ((o.h0≠231/\y.w=o.h0)/\(o.run=0/\y.c=o.sz/\1<=o.sz)/\y.to=ndO o.nx o.md/\hd o=y.w::(if 0<=y.s then[y.s.toNat] else[]))
theorem qb(i d:Nat):(dJ i d).to=ndO (dC i d).nx (dC i d).md/\(dJ i d).c=(dC i d).sz+(dC i d).run/\(dC i d).h0=231/\(dJ i d).w=231/\(dC i d).run=d:=by
 unfold dJ dC;split
 ·exact⟨rfl,rfl,rfl,rfl,rfl⟩
 ·exact⟨rfl,rfl,rfl,rfl,rfl⟩
theorem AZ{C:List Nat}{o:Opt}{y:RS}(h:PR i o y):eX C y=n7 C o/\y.w=o.h0:=by
 have e:eX C y=y.c+Cn C y.to:=rfl;unfold n7;rcases h with ⟨d,_,rfl,rfl⟩|⟨⟨_,h1⟩,⟨h2,h3,_⟩,h4,_⟩
 all_goals grind[qb]
theorem As{o:Opt}(h:o ∈ ji p i):∃y ∈ dI p i,PR i o y:=by
 unfold ji at h;rcases List.mem_append.1 h with h|h
 ·have hl:∀j,j<4->(⟨yF (j+1),-1,-1,1,⟨i,j+1,0,0,false⟩⟩:RS) ∈ dI p i:=by
   intro j hj;unfold dI;refine List.mem_append_left _ (List.mem_append_right _ ?_);exact List.mem_map.2 ⟨j,List.mem_range.2 hj,rfl⟩
  simp only[fk,List.mem_cons,List.not_mem_nil,or_false]at h;rcases h with rfl|rfl|rfl|rfl
  ·exact⟨_,hl 0 byO,.inr ⟨⟨by simp,rfl⟩,⟨rfl,rfl,by simp⟩,rfl,rfl⟩⟩
  ·exact⟨_,hl 1 byO,.inr ⟨⟨by simp,rfl⟩,⟨rfl,rfl,by simp⟩,rfl,rfl⟩⟩
  ·exact⟨_,hl 2 byO,.inr ⟨⟨by simp,rfl⟩,⟨rfl,rfl,by simp⟩,rfl,rfl⟩⟩
  ·exact⟨_,hl 3 byO,.inr ⟨⟨by simp,rfl⟩,⟨rfl,rfl,by simp⟩,rfl,rfl⟩⟩
 ·split at h
  ·rcases List.mem_append.1 h with h|h
   ·rcases List.mem_append.1 h with h|h
    ·obtain rfl:=List.mem_singleton.1 h
     by_cases hb:by' p i<128
     ·refine⟨⟨by' p i+1,-1,-1,1,asR (i+1)⟩,?_,.inr ?_⟩
      ·grind[dI,oU]
      ·unfold eL
       rw[if_pos hb];exact⟨⟨by grind,rfl⟩,⟨rfl,rfl,by simp⟩,rfl,rfl⟩
     ·refine⟨⟨235,(by' p i-127:Nat),-1,2,asR (i+1)⟩,?_,.inr ?_⟩
      ·grind[dI,jw]
      ·unfold eL
       rw[if_neg hb];exact⟨⟨by simp,rfl⟩,⟨rfl,rfl,by simp⟩,rfl,by simp[hd]⟩
    ·unfold kE at h
     split at h
     ·rename_i hc
      obtain⟨c1,c2,c3⟩:=hc;have d2:=dF.1 c2;have d3:=dF.1 c3;obtain rfl:=List.mem_singleton.1 h;refine⟨⟨130+10*(by' p i-48)+(by' p (i+1)-48),-1,-1,1,asR (i+2)⟩,?_,.inr ?_⟩
      ·grind[dI,iN]
      ·have e:130+10*(by' p i-48)+(by' p (i+1)-48)=130+(10*(by' p i-48)+by' p (i+1)-48):=byO
       rw[e];exact⟨⟨by grind,rfl⟩,⟨rfl,rfl,by simp⟩,rfl,rfl⟩
     ·cases h
   ·obtain⟨d,h1,h2,h3,rfl⟩:=ft.1 h
    refine⟨dJ i d,?_,.inl ⟨d,⟨h1,h2⟩,rfl,rfl⟩⟩;refine List.mem_append_right _ (List.mem_map.2 ⟨d-1,List.mem_range.2 byO,by simp_all⟩)
  ·cases h
theorem Hz{y:RS}(h:y ∈ dI p i):∃o ∈ ji p i,PR i o y:=by
 unfold dI at h;simp only[be₀]at h;rcases h with (((h|h)|h)|h)|h
 ·unfold iN at h
  split at h
  ·rename_i hc
   obtain⟨c1,c2,c3⟩:=hc;have d2:=dF.1 c2;have d3:=dF.1 c3;obtain rfl:=List.mem_singleton.1 h;refine⟨⟨130+(10*(by' p i-48)+by' p (i+1)-48),0,0,1,0,i+2,0⟩,?_,.inr ?_⟩
   ·grind[ji,kE]
   ·have e:130+10*(by' p i-48)+(by' p (i+1)-48)=130+(10*(by' p i-48)+by' p (i+1)-48):=byO
    rw[e];exact⟨⟨by grind,rfl⟩,⟨rfl,rfl,by simp⟩,rfl,rfl⟩
  ·cases h
 ·unfold oU at h
  split at h
  ·rename_i hc
   obtain rfl:=List.mem_singleton.1 h;refine⟨eL (by' p i) i,?_,.inr ?_⟩
   ·grind[ji]
   ·unfold eL
    rw[if_pos hc.2];exact⟨⟨by grind,rfl⟩,⟨rfl,rfl,by simp⟩,rfl,rfl⟩
  ·cases h
 ·unfold jw at h
  split at h
  ·obtain rfl:=List.mem_singleton.1 h
   refine⟨eL (by' p i) i,?_,.inr ?_⟩
   ·grind[ji]
   ·unfold eL
    rw[if_neg byO];exact⟨⟨by simp,rfl⟩,⟨rfl,rfl,by simp⟩,rfl,by simp[hd]⟩
  ·cases h
 ·obtain⟨j,hj,rfl⟩:=List.mem_map.1 h
  have:=List.mem_range.1 hj;have hm:∀o ∈ fk i,o ∈ ji p i:=fun o ho=>List.mem_append_left _ ho;have:j=0\/j=1\/j=2\/j=3:=byO;rcases this with rfl|rfl|rfl|rfl
  ·exact⟨⟨230,0,0,1,0,i,1⟩,hm _ (by simp[fk]),.inr ⟨⟨by simp,rfl⟩,⟨rfl,rfl,by simp⟩,rfl,rfl⟩⟩
  ·exact⟨⟨239,0,0,1,0,i,9⟩,hm _ (by simp[fk]),.inr ⟨⟨by simp,rfl⟩,⟨rfl,rfl,by simp⟩,rfl,rfl⟩⟩
  ·exact⟨⟨238,0,0,1,0,i,17⟩,hm _ (by simp[fk]),.inr ⟨⟨by simp,rfl⟩,⟨rfl,rfl,by simp⟩,rfl,rfl⟩⟩
  ·exact⟨⟨240,0,0,1,0,i,18⟩,hm _ (by simp[fk]),.inr ⟨⟨by simp,rfl⟩,⟨rfl,rfl,by simp⟩,rfl,rfl⟩⟩
 ·obtain⟨j,hj,rfl⟩:=List.mem_map.1 h
  have:=List.mem_range.1 hj;refine⟨dC i (j+1),?_,.inl ⟨j+1,byO,rfl,rfl⟩⟩
  grind[ji,ft]
theorem Mt{o o':Opt}(h:o ∈ ji p i)(h':o' ∈ ji p i)(e:o.h0=o'.h0)(hr:o.h0≠231):o=o':=by
 have key:∀o ∈ ji p i,o.h0≠231->o ∈ fk i\/(o=eL (by' p i) i/\(o.h0<=128\/o.h0=235))\/(o=⟨130+(10*(by' p i-48)+by' p (i+1)-48),0,0,1,0,i+2,0⟩/\130<=o.h0/\o.h0<=229):=by
  intro o h hr;unfold ji at h;rcases List.mem_append.1 h with h|h
  ·exact .inl h
  ·split at h
   ·rcases List.mem_append.1 h with h|h
    ·rcases List.mem_append.1 h with h|h
     ·obtain rfl:=List.mem_singleton.1 h
      refine .inr (.inl ⟨rfl,?_⟩);unfold eL;split
      ·exact .inl (by simp only;omega)
      ·exact .inr rfl
     ·unfold kE at h
      split at h
      ·rename_i hc
       obtain⟨c1,c2,c3⟩:=hc;have d2:=dF.1 c2;have d3:=dF.1 c3;obtain rfl:=List.mem_singleton.1 h;exact .inr (.inr ⟨rfl,by simp only;omega,by simp only;omega⟩)
      ·cases h
    ·obtain⟨d,_,_,_,rfl⟩:=ft.1 h
     exact absurd (qb i d).2.2.1 hr
   ·cases h
 have hl:∀o ∈ fk i,o.h0=230\/o.h0=239\/o.h0=238\/o.h0=240:=by
  intro o ho;simp only[fk,List.mem_cons,List.not_mem_nil,or_false]at ho;rcases ho with rfl|rfl|rfl|rfl<;>simp
 rcases key o h hr with a|⟨a,a2⟩|⟨a,a2,a3⟩
 ·rcases key o' h' byO with b|⟨b,b2⟩|⟨b,b2,b3⟩
  ·simp only[fk,List.mem_cons,List.not_mem_nil,or_false]at a b
   rcases a with rfl|rfl|rfl|rfl<;>rcases b with rfl|rfl|rfl|rfl<;>first|rfl|(simp at e;done)
  ·have:=hl o a;omega
  ·have:=hl o a;omega
 ·rcases key o' h' byO with b|⟨b,b2⟩|⟨b,b2,b3⟩
  ·have:=hl o' b;omega
  ·rw[a,b]
  ·omega
 ·rcases key o' h' byO with b|⟨b,b2⟩|⟨b,b2,b3⟩
  ·have:=hl o' b;omega
  ·omega
  ·rw[a,b]
theorem gB{x y:Nat}{l m:List Nat}(h:x<y):df (x::l) (y::m)<0:=by
 grind[df]
theorem fD{x:Nat}{l m:List Nat}:df (x::l) (x::m)=df l m:=by
 grind[df]
theorem BX{o:Opt}(h:1<=o.sz):∃l,hd o=o.h0::l:=by
 unfold hd;obtain⟨k,hk⟩:∃k,o.sz=k+1:=⟨o.sz-1,byO⟩
 simp_all
theorem Ay{i d d':Nat}(h:d<d'):df (hd (dC i d)) (hd (dC i d'))<0:=by
 unfold dC;by_cases h1:d<250
 ·rw[if_pos h1]
  by_cases h2:d'<250
  ·rw[if_pos h2]
   show df [231,d] [231,d']<0;rw[fD];exact gB h
  ·rw[if_neg h2]
   show df [231,d] [231,249+d'/250,d'%250]<0;rw[fD];exact gB byO
 ·rw[if_neg h1,if_neg byO]
  show df [231,249+d/250,d%250] [231,249+d'/250,d'%250]<0;rw[fD];by_cases h2:d/250<d'/250
  ·exact gB byO
  ·have:d/250=d'/250:=byO
   rw[this,fD];exact gB byO
theorem Gv{i d d':Nat}(h:d<d'):dt (dJ i d) (dJ i d')=true:=by
 grind[dJ,dt]
theorem CG{p:List UInt8}{W:List Nat}{i:Nat}:∀{k:Nat},i+k<=p.length->ot p W i k=W++mk W.length (tV p i k)
 | 0,_=>by grind[ot,tV,mk]
 | k+1,h=>by
  have ih:=CG (p:=p) (W:=W) (i:=i) (k:=k) byO;have hr:tV p i (k+1)=tV p i k++[by' p (i+k)]:=by
   grind[tV,List.take_succ_eq_append_getElem]
  grind[ov,yr,ot,ql]
theorem NQ{C:List Nat}(h:SolR p C){n:RN}(hn:n.ok p.length)(hm:n.m=0)(hf:Cn C n<1099511627776)(he:¬ rU p n):∃o,ChO p C n o:=by
 obtain⟨hx,ht,hle⟩:=kT h hn hf he;have hst:stO n=0:=by grind[stO]
 have hop:∀{o},o ∈ iI p n.i (stO n)↔o ∈ ji p n.i:=by intro o;rw[hst];rfl
 have hss:bx p n=dI p n.i:=by grind[bx]
 have hstep:=fun {f} hm W Pt=>iq h hn hf he (f:=f) hm W Pt;generalize de p n C=x at hx ht hle hstep;rw[hss]at hx hle;obtain⟨o,ho,hpr⟩:=Hz hx;obtain⟨hpt,hpw⟩:=AZ (C:=C) hpr;have htt:n7 C o=Cn C n:=by simp_all
 refine⟨o,hop.2 ho,htt,?_,?_⟩
 ·intro o' ho' ht'
  have ho':=hop.1 ho';obtain⟨y,hy,hpr'⟩:=As ho';obtain⟨hpt',hpw'⟩:=AZ (C:=C) hpr';have hl:=hle y hy byO;have hw:¬ y.w<x.w:=by
   grind[dt]
  have hz:∀{o y},PR n.i o y->1<=o.sz:=by
   intro o y h;rcases h with ⟨d,_,rfl,_⟩|⟨_,⟨_,_,h⟩,_⟩
   all_goals grind[dC]
  obtain⟨l,hl1⟩:=BX (hz hpr);obtain⟨l',hl2⟩:=BX (hz hpr');by_cases e:o.h0=o'.h0
  ·by_cases hr:o.h0=231
   ·have g1:∃d,o=dC n.i d/\x=dJ n.i d:=by
     rcases hpr with ⟨d,_,h1,h2⟩|⟨⟨h1,_⟩,_⟩
     all_goals grind
    have g2:∃d,o'=dC n.i d/\y=dJ n.i d:=by
     rcases hpr' with ⟨d,_,h1,h2⟩|⟨⟨h1,_⟩,_⟩
     all_goals grind
    obtain⟨d,rfl,rfl⟩:=g1;obtain⟨d',rfl,rfl⟩:=g2;by_cases hdd:d<d'
    ·exact .inr (Ay hdd)
    grind[Gv]
   grind[Mt]
  ·refine .inr ?_
   rw[hl1,hl2];exact gB byO
 ·intro f W Pt hm2 _ hPt hpv
  obtain⟨f1,hf1,he1⟩:=hstep hm2 W Pt;have hP:=hPt byO;subst hP;have hpk:cQ []=[]:=rfl;have hto:x.to=ndO o.nx o.md:=by
   rcases hpr with ⟨d,_,rfl,rfl⟩|⟨_,_,h4,_⟩
   all_goals grind[qb]
  rw[hto]at hf1 he1;have hem:eQ p n x W []=(W++emit p W.length n.i o,[]):=by
   unfold eQ;rw[if_pos hm];rcases hpr with ⟨d,hd0,rfl,rfl⟩|⟨⟨h1,h2⟩,⟨h3,_⟩,h4,h5⟩
   ·obtain⟨e1,e2,e3,e4,e5⟩:=qb n.i d
    have hnx:(dC n.i d).nx=n.i+d:=qa _ _;have hdl:n.i+d<=p.length:=by
     have:=(oY (st:=0) hn.i _ ho).nx.2;omega
    have hti:(dJ n.i d).to.i-n.i=d:=by
     grind[dJ,asR]
    rw[if_pos e4,hti];congr 1;rw[CG hdl];unfold emit;rw[if_neg byO,e3,e5];unfold wk HC dJ dC hd;by_cases h250:d<250
    ·grind[mk]
    ·simp only[if_neg h250]
     rw[if_pos byO];have t1:(249+(d:Int)/250).toNat=249+d/250:=byO;have t2:((d:Int)%250).toNat=d%250:=byO;simp[mk,Nat.add_comm]
     grind
   grind[emit]
  rw[hem]at he1;refine⟨f1,_,[],hf1,he1,?_,fun _=>rfl,fun _=>rfl,hpv⟩
  simp_all
theorem uz{p:List UInt8}{n t:RN}{v:Nat}(h:dW p n v=some t):∀k,v<k->(⟨v,-1,-1,if n.ph=0 then 2 else 0,t⟩:RS) ∈ eY p n k
 | 0,hk=>by omega
 | k+1,hk=>by
  unfold eY;by_cases e:v=k
  ·simp_all
  ·exact List.mem_append_left _ (uz h k byO)
theorem yE{p:List UInt8}{n:RN}(h:n.ph=0):∀k,(⟨254,-1,-1,1,⟨n.i,0,0,0,false⟩⟩:RS) ∈ eY p n k
 | 0=>by grind[eY]
 | k+1=>by
  exact List.mem_append_left _ (yE h k)
theorem kI{n:RN}(hm:1<=n.m/\n.m<=3):bx p n=eY p n 40:=by
 unfold bx;rw[if_neg byO,if_pos byO];rfl
theorem jO{n t:RN}{v:Nat}(hm:1<=n.m/\n.m<=3)(hv:v<40)(h:dW p n v=some t):(⟨v,-1,-1,if n.ph=0 then 2 else 0,t⟩:RS) ∈ bx p n:=by
 grind[kI,uz]
theorem wu{u v w u' v' w' a a' m m':Nat}(h:1600*u+40*v+w<1600*u'+40*v'+w'):df (hd (jh u v w a m)) (hd (jh u' v' w' a' m'))<0:=by
 show df [(1600*u+40*v+w+1)/256,(1600*u+40*v+w+1)%256] [(1600*u'+40*v'+w'+1)/256,(1600*u'+40*v'+w'+1)%256]<0;by_cases e:(1600*u+40*v+w+1)/256<(1600*u'+40*v'+w'+1)/256
 ·exact gB e
 ·have:(1600*u+40*v+w+1)/256=(1600*u'+40*v'+w'+1)/256:=byO
  rw[this,fD];exact gB byO
theorem Ak{C:List Nat}(h:SolR p C){n t1 t2 t:RN}{u v w:Nat}(hn:n.ok p.length)(hm:1<=n.m/\n.m<=3)(hp:n.ph=0)(h1:dW p n u=some t1)(h2:dW p t1 v=some t2)(h3:dW p t2 w=some t)(hu:u<40)(hv:v<40)(hw:w<40):Cn C n<=2+Cn C t1/\Cn C t1<=Cn C t2/\Cn C t2<=Cn C t:=by
 obtain⟨a1,a2,a3⟩:=db rfl hn hm h1;obtain⟨b1,b2,b3⟩:=db rfl a1 byO h2;have l1:=mm h hn (jO hm hu h1);have l2:=mm h a1 (jO byO hv h2);have l3:=mm h b1 (jO byO hw h3);simp only[hp,a3,b3,if_true]at l1 l2 l3;simp only[Nat.zero_add,Nat.reduceMod,Nat.reduceAdd]at l2 l3;refine⟨l1,by simpa using l2,by simpa using l3⟩
theorem NS{C:List Nat}(h:SolR p C){n:RN}(hn:n.ok p.length)(hm:1<=n.m/\n.m<=3)(hp:n.ph=0)(hf:Cn C n<1099511627776):∃o,ChO p C n o:=by
 have hne:∀{t:RN},1<=t.m->¬ rU p t:=fun h e=>by grind[rU]
 obtain⟨hx,ht,hle⟩:=kT h hn hf (hne hm.1);have hstep:=fun {f} hm' W Pt=>iq h hn hf (hne hm.1) (f:=f) hm' W Pt;have hmem:=@yT p n;have em0:∀{x W},x.w=254->eQ p n x W []=(W++[254],[]):=by
  grind[eQ]
 have em1:∀{t:RN} {x W Pt},t.m=n.m->x.w<40->Pt.length≠2->eQ p t x W Pt=(W,Pt++[x.w]):=by
  grind[eQ]
 have em2:∀{t:RN} {x W Pt},t.m=n.m->x.w<40->Pt.length=2->eQ p t x W Pt=(W++[trR Pt x.w/256,trR Pt x.w%256],[]):=by
  grind[eQ]
 have hti:eX C (de p n C)=(de p n C).c+Cn C (de p n C).to:=rfl;rw[hti]at ht;replace ht:(de p n C).c+Cn C (de p n C).to=Cn C n:=ht;generalize de p n C=x at hx ht hle hstep hti;have hx':=hx;rw[kI hm]at hx';rcases eZ 40 byO hx' with ⟨rfl,_⟩|⟨u,t1,hu,h1,rfl⟩
 ·refine⟨eu n.i,(hmem hn hm hp).2 (.inl rfl),?_,?_,?_⟩
  ·exact ht
  ·intro o' ho' ht'
   rcases(hmem hn hm hp).1 ho' with rfl|⟨u,v,w,t,⟨t1,t2,⟨g1,g2,g3⟩,hu,hv,hw⟩,rfl⟩
   ·simp_all
   ·exfalso
    obtain⟨l1,l2,l3⟩:=Ak h hn hm hp g1 g2 g3 hu hv hw;obtain⟨c1,c2,c3⟩:=wv hn hm hp ⟨t1,t2,⟨g1,g2,g3⟩,hu,hv,hw⟩;have e0:n7 C (jh u v w t.i (stO t))=2+0+Cn C (ndO t.i (stO t)):=rfl;rw[e0,pT c1 c3]at ht';have hl:=hle _ (jO hm hu g1) (by
     show(if n.ph=0 then 2 else 0)+Cn C t1=Cn C n
     grind)
    grind[dt]
  ·intro f W Pt hm2 _ hPt hpv
   obtain⟨f1,hf1,he1⟩:=hstep hm2 W Pt;have hP:=hPt byO;subst hP;rw[em0 rfl]at he1;refine⟨f1,_,[],hf1,he1,?_,fun _=>rfl,fun _=>rfl,hpv⟩;show W++[254]++cQ []=(W++cQ [])++[254];rw[show cQ []=[] from rfl,List.append_nil,List.append_nil]
 ·simp only[hp,if_true]at ht
  obtain⟨a1,a2,a3⟩:=db rfl hn hm h1;have hf1:Cn C t1<1099511627776:=byO;obtain⟨hx2,ht2,hle2⟩:=kT h a1 hf1 (hne byO);have hstep2:=fun {f} hm' W Pt=>iq h a1 hf1 (hne byO) (f:=f) hm' W Pt;have hti2:eX C (de p t1 C)=(de p t1 C).c+Cn C (de p t1 C).to:=rfl;rw[hti2]at ht2;replace ht2:(de p t1 C).c+Cn C (de p t1 C).to=Cn C t1:=ht2;generalize de p t1 C=x2 at hx2 ht2 hle2 hstep2 hti2;have hx2':=hx2;rw[kI byO]at hx2';rcases eZ 40 byO hx2' with ⟨_,e⟩|⟨v,t2,hv,h2,rfl⟩
  ·omega
  rw[if_neg byO]at ht2 hle2 hstep2;simp only[Nat.zero_add]at ht2;obtain⟨b1,b2,b3⟩:=db rfl a1 byO h2;have hf2:Cn C t2<1099511627776:=byO;obtain⟨hx3,ht3,hle3⟩:=kT h b1 hf2 (hne byO);have hstep3:=fun {f} hm' W Pt=>iq h b1 hf2 (hne byO) (f:=f) hm' W Pt;have hti3:eX C (de p t2 C)=(de p t2 C).c+Cn C (de p t2 C).to:=rfl;rw[hti3]at ht3;replace ht3:(de p t2 C).c+Cn C (de p t2 C).to=Cn C t2:=ht3;generalize de p t2 C=x3 at hx3 ht3 hle3 hstep3 hti3;have hx3':=hx3;rw[kI byO]at hx3';rcases eZ 40 byO hx3' with ⟨_,e⟩|⟨w,t3,hw,h3,rfl⟩
  ·omega
  rw[if_neg byO]at ht3 hle3 hstep3;simp only[Nat.zero_add]at ht3;clear hti hti2 hti3 hx hx' hx2 hx2' hx3 hx3';obtain⟨c1,c2,c3⟩:=wv hn hm hp ⟨t1,t2,⟨h1,h2,h3⟩,hu,hv,hw⟩;have hnd:=pT c1 c3;refine⟨jh u v w t3.i (stO t3),(hmem hn hm hp).2 (.inr ⟨u,v,w,t3,⟨t1,t2,⟨h1,h2,h3⟩,hu,hv,hw⟩,rfl⟩),?_,?_,?_⟩
  ·show 2+0+Cn C (ndO t3.i (stO t3))=Cn C n
   simp_all
  ·intro o' ho' ht'
   rcases(hmem hn hm hp).1 ho' with rfl|⟨u',v',w',t',⟨t1',t2',⟨g1,g2,g3⟩,hu',hv',hw'⟩,rfl⟩
   ·refine .inr ?_
    show df [(1600*u+40*v+w+1)/256,(1600*u+40*v+w+1)%256] [254]<0;exact gB byO
   ·obtain⟨l1,l2,l3⟩:=Ak h hn hm hp g1 g2 g3 hu' hv' hw'
    obtain⟨d1,d2,d3⟩:=wv hn hm hp ⟨t1',t2',⟨g1,g2,g3⟩,hu',hv',hw'⟩;have e0:n7 C (jh u' v' w' t'.i (stO t'))=2+0+Cn C (ndO t'.i (stO t')):=rfl;rw[e0,pT d1 d3]at ht';have k1:=hle _ (jO hm hu' g1) (by
     show(if n.ph=0 then 2 else 0)+Cn C t1'=Cn C n
     grind)
    rw[if_pos hp]at k1;by_cases e1:u<u'
    ·exact .inr (wu byO)
    ·have e1:u'=u:=by
      grind[dt]
     subst e1;rw[h1]at g1;obtain rfl:=Option.some.inj g1;have k2:=hle2 _ (jO byO hv' g2) (by
      show(if t1.ph=0 then 2 else 0)+Cn C t2'=Cn C t1
      grind)
     by_cases e2:v<v'
     ·exact .inr (wu byO)
     ·have e2:v'=v:=by
       grind[dt]
      subst e2;rw[h2]at g2;obtain rfl:=Option.some.inj g2;have k3:=hle3 _ (jO byO hw' g3) (by
       show(if t2.ph=0 then 2 else 0)+Cn C t'=Cn C t2
       grind)
      by_cases e3:w<w'
      ·simp_all[wu]
      grind[dt]
  ·intro f W Pt hm2 _ hPt hpv
   obtain⟨f1,hg1,he1⟩:=hstep hm2 W Pt;have hP:=hPt byO;subst hP;simp only[hp]at hg1 he1;rw[em1 rfl byO (by simp)]at he1;obtain⟨f2,hg2,he2⟩:=hstep2 hg1 W [u];rw[em1 a2 byO (by simp)]at he2;obtain⟨f3,hg3,he3⟩:=hstep3 hg2 W [u,v];rw[em2 byO byO rfl]at he3;have hnd':ndO (jh u v w t3.i (stO t3)).nx (jh u v w t3.i (stO t3)).md=t3:=hnd;rw[hnd'];refine⟨f3,_,[],hg3,he1.trans (he2.trans he3),?_,fun _=>rfl,fun _=>rfl,by simp⟩;show W++[(1600*u+40*v+w+1)/256,(1600*u+40*v+w+1)%256]++cQ []=(W++cQ [])++[(1600*u+40*v+w+1)/256,(1600*u+40*v+w+1)%256];rw[show cQ []=[] from rfl,List.append_nil,List.append_nil]
def qV(l:List Nat)(s:Nat):Nat->Nat
 | 0=>0
 | t+1=>qV l s t+jj l (s+t)*2^(7-t)
theorem NH(l:List Nat)(k:Nat):jj l k<2:=Nat.mod_lt _ (by decide)
theorem Bw{l:List Nat}:∀k,k<=6*l.length->∀q,q<(6*l.length+7)/8->(pkR l k).getD q 0=qV l (8*q) (min 8 (k-8*q))
 | 0,_,q,hq=>by
  simp only[pkR,au₀,List.getElem?_replicate,if_pos hq,Nat.zero_sub];rfl
 | k+1,hk,q,hq=>by
  have ih:=Bw (l:=l) k byO;have hl:=qp l k;have hb:=NH l k;have hs:(pkR l (k+1)).getD q 0=(pkR l k).getD q 0+if q=k/8 then jj l k*2^(7-k%8) else 0:=by
   grind[pkR]
  by_cases hq2:q=k/8
  ·have e2:min 8 (k+1-8*q)=k%8+1:=byO
   grind[qV]
  grind
theorem jJ(l:List Nat):cQ l=(List.range ((6*l.length+7)/8)).map fun q=>qV l (8*q) (min 8 (6*l.length-8*q)):=by
 have hl:=pY l;apply List.ext_getElem
 ·simp[hl]
 ·intro q h1 h2
  have:=Bw (l:=l) (6*l.length) (Nat.le_refl _) q byO
  grind[cQ]
theorem nE{l m:List Nat}{s r:Nat}:∀t,(∀i,i<t->jj l (s+i)=jj m (r+i))->qV l s t=qV m r t
 | 0,_=>rfl
 | t+1,h=>by
  rw[qV,qV,nE t (fun i hi=>h i byO),h t byO]
theorem EM{A L:List Nat}{k:Nat}(h:k<6*A.length):jj (A++L) k=jj A k:=by
 grind[jj]
theorem C7{A L:List Nat}{k:Nat}:jj (A++L) (6*A.length+k)=jj L k:=by
 grind[jj]
theorem u5{A L:List Nat}(h:A.length%4=0):cQ (A++L)=cQ A++cQ L:=by
 obtain⟨m,hm⟩:∃m,A.length=4*m:=⟨A.length/4,byO⟩;rw[jJ (A++L),jJ A,jJ L];have hl:(6*(A++L).length+7)/8=3*m+(6*L.length+7)/8:=by rw[as₀];omega
 have hA:(6*A.length+7)/8=3*m:=byO;rw[hl,hA];apply List.ext_getElem
 ·simp
 ·intro q h1 h2
  simp only[ay₀,List.length_range]at h1;rw[List.getElem_map,List.getElem_range];by_cases hq:q<3*m
  ·rw[List.getElem_append_left (by simpa using hq),List.getElem_map,List.getElem_range]
   have e1:min 8 (6*(A++L).length-8*q)=8:=by rw[as₀];omega
   have e2:min 8 (6*A.length-8*q)=8:=byO;rw[e1,e2];exact nE 8 fun i hi=>EM byO
  ·rw[List.getElem_append_right (by simp;omega),List.getElem_map,List.getElem_range]
   simp only[ay₀,List.length_range];have e1:6*(A++L).length-8*q=6*L.length-8*(q-3*m):=by rw[as₀];omega
   rw[e1];refine nE _ fun i hi=>?_;have e2:8*q+i=6*A.length+(8*(q-3*m)+i):=byO;rw[e2,C7]
theorem Rq{a x md:Nat}(h:a<64):cQ [a]=hd (fu a 1 x md):=by
 rw[jJ];have e:hd (fu a 1 x md)=[a*262144/65536]:=rfl;rw[e];simp only[ak₀,an₀,Nat.reduceAdd,Nat.reduceMul,Nat.reduceDiv,List.range_succ,List.range_zero,List.nil_append,ag₀,al₀,List.map_append,am₀,Nat.mul_zero,Nat.sub_zero,Nat.reduceLeDiff,Nat.min_eq_right,Nat.reduceSub,Nat.min_def,if_true,if_false];simp only[qV,jj,Nat.reduceAdd,Nat.reduceDiv,Nat.reduceMod,Nat.reduceSub,Nat.reducePow,Nat.zero_add,Nat.add_zero,List.getD_cons_zero,List.getD_cons_succ,Nat.mul_one,Nat.div_one];congr 1;omega
theorem Rr{a b x md:Nat}(ha:a<64)(hb:b<64):cQ [a,b]=hd (fu (64*a+b) 2 x md):=by
 rw[jJ];have e:hd (fu (64*a+b) 2 x md)=[(64*a+b)*4096/65536,(64*a+b)*4096/256%256]:=rfl;rw[e];simp only[ak₀,an₀,Nat.reduceAdd,Nat.reduceMul,Nat.reduceDiv,List.range_succ,List.range_zero,List.nil_append,ag₀,al₀,List.map_append,am₀,Nat.mul_zero,Nat.sub_zero,Nat.reduceLeDiff,Nat.min_eq_right,Nat.reduceSub,Nat.min_def,if_true,if_false];simp only[qV,jj,Nat.reduceAdd,Nat.reduceDiv,Nat.reduceMod,Nat.reduceSub,Nat.reducePow,Nat.zero_add,Nat.add_zero,List.getD_cons_zero,List.getD_cons_succ,Nat.mul_one,Nat.div_one];congr 1
 ·omega
 ·congr 1
  omega
theorem Rs{a b c x md:Nat}(ha:a<64)(hb:b<64)(hc:c<64):cQ [a,b,c]=hd (fu (64*(64*a+b)+c) 3 x md):=by
 rw[jJ];have e:hd (fu (64*(64*a+b)+c) 3 x md)=[(64*(64*a+b)+c)*64/65536,(64*(64*a+b)+c)*64/256%256,(64*(64*a+b)+c)*64%256]:=rfl;rw[e];simp only[ak₀,an₀,Nat.reduceAdd,Nat.reduceMul,Nat.reduceDiv,List.range_succ,List.range_zero,List.nil_append,ag₀,al₀,List.map_append,am₀,Nat.mul_zero,Nat.sub_zero,Nat.reduceLeDiff,Nat.min_eq_right,Nat.reduceSub,Nat.min_def,if_true,if_false];simp only[qV,jj,Nat.reduceAdd,Nat.reduceDiv,Nat.reduceMod,Nat.reduceSub,Nat.reducePow,Nat.zero_add,Nat.add_zero,List.getD_cons_zero,List.getD_cons_succ,Nat.mul_one,Nat.div_one];congr 1
 ·omega
 ·congr 1
  ·omega
  ·congr 1
   omega
theorem MD{a b c d x md:Nat}(ha:a<64)(hb:b<64)(hc:c<64)(hd4:d<64):cQ [a,b,c,d]=hd (fu (64*(64*(64*a+b)+c)+d) 4 x md):=by
 rw[jJ];have e:hd (fu (64*(64*(64*a+b)+c)+d) 4 x md)=[(64*(64*(64*a+b)+c)+d)*1/65536,(64*(64*(64*a+b)+c)+d)*1/256%256,(64*(64*(64*a+b)+c)+d)*1%256]:=rfl;rw[e];simp only[ak₀,an₀,Nat.reduceAdd,Nat.reduceMul,Nat.reduceDiv,List.range_succ,List.range_zero,List.nil_append,ag₀,al₀,List.map_append,am₀,Nat.mul_zero,Nat.sub_zero,Nat.reduceLeDiff,Nat.min_eq_right,Nat.reduceSub,Nat.min_def,if_true,if_false];simp only[qV,jj,Nat.reduceAdd,Nat.reduceDiv,Nat.reduceMod,Nat.reduceSub,Nat.reducePow,Nat.zero_add,Nat.add_zero,List.getD_cons_zero,List.getD_cons_succ,Nat.mul_one,Nat.div_one];congr 1
 ·omega
 ·congr 1
  ·omega
  ·congr 1
   omega
end Go.Proofs.YtmnlgdpdgjbfgaaGreat
