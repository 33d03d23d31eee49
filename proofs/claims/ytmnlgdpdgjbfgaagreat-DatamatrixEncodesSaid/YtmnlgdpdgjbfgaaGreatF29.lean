/- Lemmas. -/
import Derived.Test.YtmnlgdpdgjbfgaaGreatF28
set_option linter.all false
namespace Go.Proofs.YtmnlgdpdgjbfgaaGreat
open Go.Abs
variable{H:Heap}{S:List Value}{v:Value}
set_option maxRecDepth 20000
def wS0:Stm:=match mc with | .seq s _=>s|_=>.skip
def wB:Stm:=match mc with | .seq _ (.scope b _)=>b|_=>.skip
def wB1:Stm:=match wB with | .seq s _=>s|_=>.skip
def wB2:Stm:=match wB with | .seq _ (.seq s _)=>s|_=>.skip
def wB3:Stm:=match wB with | .seq _ (.seq _ (.seq s _))=>s|_=>.skip
def wA0:Stm:=match mc with | .seq _ (.scope _ (.alt _ a _))=>a|_=>.skip
def wA1:Stm:=match mc with | .seq _ (.scope _ (.alt _ _ (.alt _ a _)))=>a|_=>.skip
def wA2:Stm:=match mc with | .seq _ (.scope _ (.alt _ _ (.alt _ _ (.alt _ a _))))=>a|_=>.skip
def wA3:Stm:=match mc with | .seq _ (.scope _ (.alt _ _ (.alt _ _ (.alt _ _ a))))=>a|_=>.skip
theorem Hj:mc=.seq wS0 (.scope (.seq wB1 (.seq wB2 (.seq wB3 wA0))) (.alt 0 wA0 (.alt 1 wA1 (.alt 2 wA2 wA3)))):=by kernel_rfl
section
variable {lo:Nat}{A:Heap}{sb cb bo ob cap:Nat}{v:Value}{p:List UInt8}{cs R:List Nat}
structure Nd (A H:Heap)(sb cb bo ob cap:Nat)(v:Value)(p:List UInt8)(cs R:List Nat)(a st f:Nat)(W:List Nat):Prop where
 s:SrH A sb cb v p cs
 ext:Ext A H
 out:OutH H bo cap W
 op:∃o,H.get ob=some (aQ o)
 lbo:A.length<=bo
 lob:A.length<=ob
 ne:bo≠ob
 ha:a<=p.length
 hs:st<19
 cost:W.length+cst cs a st=cap
 big:cap<=10000
 fuel:cst cs a st<f
 res:pt p cs f a st W=R
structure NdO (A H:Heap)(sb cb bo ob cap:Nat)(v:Value)(p:List UInt8)(cs R:List Nat)(a f:Nat)(o:Opt)(W:List Nat):Prop where
 s:SrH A sb cb v p cs
 ext:Ext A H
 out:OutH H bo cap W
 op:H.get ob=some (aQ o)
 lbo:A.length<=bo
 lob:A.length<=ob
 ne:bo≠ob
 ok:o.ok p.length a
 cost:W.length+bP cs o=cap
 big:cap<=10000
 fuel:bP cs o<f+1
 ha:a+o.run<=p.length
 res:pt p cs f o.nx o.md (W++emit p W.length a o)=R
def jumps(A:Heap)(sb cb bo ob cap:Nat)(v:Value)(p:List UInt8)(cs R:List Nat):Nat->Nat->List Value->Heap->Prop:=fun m l S H=>
 (l=0/\∃a st f W,m=3*cst cs a st/\Nd A H sb cb bo ob cap v p cs R a st f W/\∃(z:Nat->Value),S=[ptr sb,z 1,jQ bo cap W,aB a,aB st,ptr ob,z 6,z 7,z 8,z 9,z 10,z 11,z 12,z 13,z 14,z 15,z 16,z 17,z 18,z 19,z 20,z 21,z 22,z 23,z 24,z 25,z 26,z 27,z 28,z 29]) \/
 (l=1/\∃a f o W,m=3*bP cs o-1/\0<o.run/\NdO A H sb cb bo ob cap v p cs R a f o W/\∃(z:Nat->Value),S=[ptr sb,z 1,jQ bo cap W,aB a,z 4,ptr ob,z 6,z 7,z 8,z 9,z 10,z 11,z 12,z 13,z 14,z 15,z 16,z 17,z 18,z 19,z 20,z 21,z 22,z 23,z 24,z 25,z 26,z 27,z 28,z 29]) \/
 (l=2/\∃a f o W,m=3*cst cs o.nx o.md+1/\Nd A H sb cb bo ob cap v p cs R o.nx o.md f W/\H.get ob=some (aQ o)/\∃(z:Nat->Value),S=[ptr sb,z 1,jQ bo cap W,aB a,z 4,ptr ob,z 6,z 7,z 8,z 9,z 10,z 11,z 12,z 13,z 14,z 15,z 16,z 17,z 18,z 19,z 20,z 21,z 22,z 23,z 24,z 25,z 26,z 27,z 28,z 29])
open XYe
theorem E3{Q:bI}{a st f:Nat}{W:List Nat}(hsol:Sol p cs)(hlo:lo<=A.length)(hn:Nd A H sb cb bo ob cap v p cs R a st f W)(hS:∃(z:Nat->Value),S=[ptr sb,z 1,jQ bo cap W,aB a,aB st,ptr ob,z 6,z 7,z 8,z 9,z 10,z 11,z 12,z 13,z 14,z 15,z 16,z 17,z 18,z 19,z 20,z 21,z 22,z 23,z 24,z 25,z 26,z 27,z 28,z 29])
  (hret:∀S' H',Ext A H'->OutH H' bo cap R->S'[1]?=some (jQ bo cap R)->Q .ret S' H')
  (h1:∀f o H' S',NdO A H' sb cb bo ob cap v p cs R a f o W->bP cs o=cst cs a st->0<o.run->(∃(z:Nat->Value),S'=[ptr sb,z 1,jQ bo cap W,aB a,z 4,ptr ob,z 6,z 7,z 8,z 9,z 10,z 11,z 12,z 13,z 14,z 15,z 16,z 17,z 18,z 19,z 20,z 21,z 22,z 23,z 24,z 25,z 26,z 27,z 28,z 29])->Q (.exit 1000001) S' H')
  (h2:∀f o W H' S',Nd A H' sb cb bo ob cap v p cs R o.nx o.md f W->cst cs o.nx o.md<cst cs a st->H'.get ob=some (aQ o)->(∃(z:Nat->Value),S'=[ptr sb,z 1,jQ bo cap W,aB a,z 4,ptr ob,z 6,z 7,z 8,z 9,z 10,z 11,z 12,z 13,z 14,z 15,z 16,z 17,z 18,z 19,z 20,z 21,z 22,z 23,z 24,z 25,z 26,z 27,z 28,z 29])->Q (.exit 1000002) S' H'):wpS cp lo wA0 Q S H:=by
 obtain⟨z,rfl⟩:=hS;show wpS cp lo (match mc with | .seq _ (.scope _ (.alt _ a _))=>a|_=>.skip) _ _ _;unfold mc;simp only[kB,aD];have hsH:=hn.s.ext hn.ext;have hgs:=hsH.g;obtain⟨ad,c,ev⟩:=hsH.pl.len;rw[ev]at hgs;have hi:=hsH.hi;have hlA:=hn.ext.1;by_cases hfin:st=0/\a=p.length
 ·have hR:W=R:=by
   have h1:=hn.res;have h2:=hn.fuel
   match f,h2 with
   | f+1,_=>grind[pt]
  subst hR;obtain⟨hf1,hf2⟩:=hfin;have hd1:decide ((st:Int)=0)=true:=decide_eq_true byO;have hd2:decide ((a:Int)=(p.length:Nat))=true:=decide_eq_true byO;replace hf1:st<=0:=byO;replace hf2:a<=p.length/\p.length<=a:=byO;refine bL ?_;refine aA ?_
  grind[Nd.ext,Nd.out]
 ·have hd1:(decide ((st:Int)=0)&&decide ((a:Int)=(p.length:Nat)))=false:=by
   grind
  have hcst:cst cs a st<1073741824:=by have:=hn.cost;have:=hn.big;omega
  obtain⟨hmem,htot⟩:=zR hsol hn.ha hn.hs hcst hfin;have hok:=iY hn.ha _ hmem;have hcost:=hn.cost;have hbig:=hn.big;have hf:=hn.fuel;have hres:=hn.res;have hha:=hn.ha;have hhs:=hn.hs;obtain⟨f,rfl⟩:∃g,f=g+1:=⟨f-1,byO⟩;rw[pt,if_neg hfin]at hres;have hrun:a+(chs p cs a st).run<=p.length:=by
   rcases yW _ hmem with h|h
   ·omega
   ·have:=hok.nx.2;omega
  clear hcst hmem;refine an ?_;clear hd1;replace hres:False\/_:=.inr hres;replace htot:False\/_:=.inr htot;replace hcost:False\/_:=.inr hcost;refine bF ?_;refine aC (Qz (lo:=lo) hsH hha hhs byO) ?_;rintro r H1 ⟨hx1,rfl⟩;generalize chs p cs a st=o at hres htot hok hrun;obtain⟨oo,hob⟩:=hn.op;have hob1:=hx1.get hob;have hobl:=Heap.get_lt hob1;have hlob:=hn.lob;refine aA ?_;change wpS cp lo _ _ _ (List.set H1 ob (some (aQ o)));have hk2:Keep ob H1 (List.set H1 ob (some (aQ o))):=keepSet;have hg2:Heap.get (List.set H1 ob (some (aQ o))) ob=some (aQ o):=aG byO;have hn2:NdO A (List.set H1 ob (some (aQ o))) sb cb bo ob cap v p cs R a f o W:=
   ⟨hn.s,hk2.ext (hn.ext.trans hx1) hn.lob,(hn.out.mono hx1).keep hk2 hn.ne,hg2,hn.lbo,hn.lob,hn.ne,hok,by simp_all,hbig,by simp_all,hrun,hres.resolve_left id⟩
  generalize List.set H1 ob (some (aQ o))=H2 at hk2 hg2 hn2;have o1:=hok.sz;have o2:=hok.run;have o3:=hok.nx;have o4:=hok.md;have er:(aQ o)[4]?=some (aB o.run):=rfl;have ez:(aQ o)[3]?=some (aB o.sz):=rfl;by_cases hr0:0<o.run
  ·have hd:decide ((o.run:Int)>0)=true:=decide_eq_true byO
   refine bL ?_;(try simp );exact h1 _ _ _ _ hn2 (htot.resolve_left id) hr0 (aH rfl)
  ·have hd:decide ((o.run:Int)>0)=false:=decide_eq_false byO
   have hd2:decide ((0:Int)<(o.run:Nat))=false:=decide_eq_false byO;have hem:emit p W.length a o=Go.Proofs.YtmnlgdpdgjbfgaaGreat.hd o:=by grind[emit]
   have hts:bP cs o=o.sz+o.run+cst cs o.nx o.md:=rfl;have hout:=hn2.out;have hhl:=rq o1.2;refine an ?_;clear hd hd2;have hcap:W.length+o.sz+cst cs o.nx o.md<=cap:=by
    grind
   refine bF ?_;refine wI (L:=Go.Proofs.YtmnlgdpdgjbfgaaGreat.hd o) hout (by have:=hn.lbo;omega) hg2 (by grind) ?_ hhl byO ?_
   ·unfold Go.Proofs.YtmnlgdpdgjbfgaaGreat.hd aQ
    have:o.sz=1\/o.sz=2\/o.sz=3:=byO
    grind
   intro H3 ho3 hk3 hl3;refine aA ?_;refine h2 f o (W++Go.Proofs.YtmnlgdpdgjbfgaaGreat.hd o) H3 _ ⟨hn.s,hk3.ext hn2.ext hn.lbo,ho3,⟨o,hk3.get hg2 (fun e=>hn.ne e.symm)⟩,hn.lbo,hn.lob,hn.ne,o3.2,o4,?_,hbig,?_,?_⟩ ?_ (hk3.get hg2 (fun e=>hn.ne e.symm)) (aH rfl)
   all_goals grind
theorem NU{Q:bI}{a f:Nat}{o:Opt}{W:List Nat}(hn:Nd A H sb cb bo ob cap v p cs R o.nx o.md f W)(hg:H.get ob=some (aQ o))(hS:∃(z:Nat->Value),S=[ptr sb,z 1,jQ bo cap W,aB a,z 4,ptr ob,z 6,z 7,z 8,z 9,z 10,z 11,z 12,z 13,z 14,z 15,z 16,z 17,z 18,z 19,z 20,z 21,z 22,z 23,z 24,z 25,z 26,z 27,z 28,z 29])
  (h0:∀S',(∃z:Nat->Value,S'=[ptr sb,z 1,jQ bo cap W,aB o.nx,aB o.md,ptr ob,z 6,z 7,z 8,z 9,z 10,z 11,z 12,z 13,z 14,z 15,z 16,z 17,z 18,z 19,z 20,z 21,z 22,z 23,z 24,z 25,z 26,z 27,z 28,z 29])->Q (.exit 1000000) S' H):wpS cp lo wA2 Q S H:=by
 obtain⟨z,rfl⟩:=hS;show wpS cp lo (match mc with | .seq _ (.scope _ (.alt _ _ (.alt _ _ (.alt _ a _))))=>a|_=>.skip) _ _ _;unfold mc;simp only[kB];refine aA ?_
 simp_all
theorem getD_map{l:List UInt8}{k:Nat}(h:k<l.length):(l.map UInt8.toNat).getD k 0=(l.getD k 0).toNat:=by
 simp_all
theorem P7{l:List UInt8}{a n:Nat}(h:SlU H v l)(hn:a+n<=l.length)(hn0:0<n):∃v',(∀G,aJ (.sl 1 true true false) [v,.int .i64 (a:Nat),.int .i64 ((a:Int)+(n:Nat))] G=some v')/\SlU H v' ((l.drop a).take n):=by
 rcases h with ⟨rfl,rfl⟩|⟨b,o,sp,cap,xs,rfl,h2,h3,h4,h5,h6⟩
 ·simp_all
 ·have hd:(xs.drop (o+a)).take n=((l.drop a).take n).map FC:=by
   grind[List.map_take,List.map_drop,List.drop_drop,List.drop_take]
  have hl:((l.drop a).take n).length=n:=by simp;omega
  have hb:bounds l.length cap true true false [Value.int .i64 (a:Nat),.int .i64 ((a:Int)+(n:Nat))]=some (a,a+n,cap):=by
   simp[bounds,toB]
   grind
  rcases h5 with rfl|rfl
  ·refine⟨.slice (some ⟨b,o+a,none⟩) n (cap-a),?_,.inr ⟨b,o+a,none,cap-a,xs,by rw[hl],h2,by simp_all,byO,.inl rfl,byO⟩⟩
   grind[AI]
  ·refine⟨.slice (some ⟨b,o+a,some 1⟩) n (cap-a),?_,.inr ⟨b,o+a,some 1,cap-a,xs,by rw[hl],h2,by simp_all,byO,.inr rfl,byO⟩⟩
   grind[AH]
theorem NT{Q:bI}{a f:Nat}{o:Opt}{W:List Nat}(hlo:lo<=A.length)(hn:NdO A H sb cb bo ob cap v p cs R a f o W)(hr:0<o.run)(hS:∃(z:Nat->Value),S=[ptr sb,z 1,jQ bo cap W,aB a,z 4,ptr ob,z 6,z 7,z 8,z 9,z 10,z 11,z 12,z 13,z 14,z 15,z 16,z 17,z 18,z 19,z 20,z 21,z 22,z 23,z 24,z 25,z 26,z 27,z 28,z 29])
  (h0:∀S' H' W',Nd A H' sb cb bo ob cap v p cs R o.nx o.md f W'->(∃z:Nat->Value,S'=[ptr sb,z 1,jQ bo cap W',aB o.nx,aB o.md,ptr ob,z 6,z 7,z 8,z 9,z 10,z 11,z 12,z 13,z 14,z 15,z 16,z 17,z 18,z 19,z 20,z 21,z 22,z 23,z 24,z 25,z 26,z 27,z 28,z 29])->Q (.exit 1000000) S' H'):wpS cp lo wA1 Q S H:=by
 obtain⟨z,rfl⟩:=hS;show wpS cp lo (match mc with | .seq _ (.scope _ (.alt _ _ (.alt _ a _)))=>a|_=>.skip) _ _ _;unfold mc;simp only[kB,aD];have hg:=hn.op;have hobl:=Heap.get_lt hg;have e0:(aQ o)[0]?=some (aB o.h0):=rfl;have e3:(aQ o)[3]?=some (aB o.sz):=rfl;have e4:(aQ o)[4]?=some (aB o.run):=rfl;have o1:=hn.ok.sz;have o2:=hn.ok.run;have o3:=hn.ok.nx;have o4:=hn.ok.md;have oh:=hn.ok.h;have hcost:=hn.cost;have hbig:=hn.big;have hlbo:=hn.lbo;have hlob:=hn.lob;have hts:bP cs o=o.sz+o.run+cst cs o.nx o.md:=rfl;have hcap:W.length+o.sz+o.run+cst cs o.nx o.md=cap:=byO;replace hcap:W.length+o.sz+o.run+cst cs o.nx o.md<=cap/\cap<=W.length+o.sz+o.run+cst cs o.nx o.md:=byO;clear hts hcost;have hxA:=hn.ext;have hlA:=hxA.1;refine aA ?_;change wpS cp lo _ _ _ (H++[some [aB o.h0]]);have hxb:Ext H (H++[some [aB o.h0]]):=Ext.app _ _;have hgb:(H++[some [aB o.h0]]).get H.length=some [aB o.h0]:=aF;generalize H++[some [aB o.h0]]=H1 at hxb hgb;refine aT ?_;refine wI (L:=[o.h0]) (hn.out.mono hxb) byO hgb (by simp) rfl rfl byO ?_;intro H2 ho2 hk2 hl2;have hg2:=hk2.get (hxb.get hg) (fun e=>hn.ne e.symm);have hx2:=hk2.ext (hxA.trans hxb) hlbo;clear hgb;have hL1:(W++[o.h0]).length=W.length+1:=by simp
 generalize hW1:W++[o.h0]=W1 at ho2 hL1;replace hL1:W1.length<=W.length+1/\W.length+1<=W1.length:=byO;have hb3:bounds 3 3 true true false [Value.int .i64 1,aB o.sz]=some (1,o.sz,3):=by
  simp[bounds,toB]
  grind
 obtain⟨D,hD⟩:∃D,False\/(Go.Proofs.YtmnlgdpdgjbfgaaGreat.hd o).drop 1=D:=⟨_,.inr rfl⟩;have hDl:D.length<=o.sz-1/\o.sz-1<=D.length:=by
  grind[rq]
 have hDat:False\/∀k,k<D.length->(aQ o)[1+k]?=some (aB (D.getD k 0))/\D.getD k 0<=255:=by
  grind[hd,aQ]
 refine aA ?_;refine c8 (fun S' H'=>(Ext A H'/\OutH H' bo cap (W1++mk W1.length D)/\H'.get ob=some (aQ o))/\∃z:Nat->Value,S'=[ptr sb,z 1,jQ bo cap (W1++mk W1.length D),aB a,z 4,ptr ob,z 6,z 7,z 8,z 9,z 10,z 11,z 12,z 13,z 14,z 15,z 16,z 17,z 18,z 19,z 20,z 21,z 22,z 23,z 24,z 25,z 26,z 27,z 28,z 29]) ?_ ?_
 ·skip
  refine aS (fun k S H'=>(Ext A H'/\OutH H' bo cap (W1++mk W1.length (D.take k))/\H'.get ob=some (aQ o))/\∃(z:Nat->Value),S=[ptr sb,z 1,jQ bo cap (W1++mk W1.length (D.take k)),aB a,z 4,ptr ob,z 6,z 7,z 8,z 9,z 10,z 11,z 12,z 13,.slice (some ⟨ob,1,none⟩) (o.sz-1) (3-1),.int .i64 (o.sz-1:Nat),.int .i64 (k:Nat),z 17,z 18,z 19,z 20,z 21,z 22,z 23,z 24,z 25,z 26,z 27,z 28,z 29]) (o.sz-1) ⟨⟨hx2,by grind[mk],hg2⟩,aH (by simp_all[mk])⟩ ?_ ?_ ?_
  ·rintro k S H' hk ⟨_,z,rfl⟩
   exact⟨decide ((k:Int)<((o.sz-1:Nat):Int)),by rfl,by simp⟩
  ·rintro k S H3 hk ⟨⟨hx3,ho3,hg3⟩,z,rfl⟩
   obtain⟨hat,hle⟩:=hDat.resolve_left id k byO;have hsn:=ql W1.length (D.take k) (D.getD k 0);rw[<-m6 (by omega:k<D.length),List.length_take_of_le (by omega:k<=D.length)]at hsn;have hml:=nT W1.length (D.take k);rw[List.length_take_of_le (by omega:k<=D.length)]at hml;rw[hsn,<-ba₀];generalize D.getD k 0=x at hat hle;have hWl:(W1++mk W1.length (D.take k)).length<=W1.length+k/\W1.length+k<=(W1++mk W1.length (D.take k)).length:=by simp[hml]
   have hle2:(W1++mk W1.length (D.take k)).length=W1.length+k:=byO;generalize W1++mk W1.length (D.take k)=W2 at ho3 hWl hle2;rw[<-hle2];clear hsn hml hle2;have hmm:msk W2.length<=256:=by grind[msk]
   have hl3:=hx3.1;refine aA ?_;refine aT ?_;refine aC (MB (lo:=lo) (k:=W2.length) byO) ?_;rintro r H4 ⟨rfl,rfl⟩;generalize msk W2.length=ms at hmm;have em:((x:Int)+(ms:Nat)).tmod 256=(((x+ms)%256:Nat):Int):=by grind
   have hy:(x+ms)%256<256:=byO;generalize (x+ms)%256=y at em hy;refine aA ?_;change wpS cp lo _ _ _ (H3++[some [aB y]]);have hxd:Ext H3 (H3++[some [aB y]]):=Ext.app _ _;have hgd:(H3++[some [aB y]]).get H3.length=some [aB y]:=aF;have hld:(H3++[some [aB y]]).length<=H3.length+1/\H3.length+1<=(H3++[some [aB y]]).length:=by simp
   generalize H3++[some [aB y]]=H5 at hxd hgd hld;refine aT ?_;refine wI (L:=[y]) (ho3.mono hxd) byO hgd (by simp) rfl rfl byO ?_;intro H6 ho6 hk6 hl6;have hx6:=hk6.ext (hx3.trans hxd) hlbo;have hg6:=hk6.get (hxd.get hg3) (fun e=>hn.ne e.symm);clear hgd;refine aA ?_;exact⟨⟨hx6,ho6,hg6⟩,aH ncM⟩
  ·rintro S H3 ⟨⟨hx3,ho3,hg3⟩,z,rfl⟩
   rw[List.take_of_length_le hDl.1]at *;(try simp only[aD]);exact⟨⟨hx3,ho3,hg3⟩,aH rfl⟩
 ·rintro S1 H7 ⟨⟨hx7,ho7,hg7⟩,z1,rfl⟩
  have hW3l:(W1++mk W1.length D).length=W1.length+(o.sz-1):=by grind[nT]
  obtain⟨W3,hW3⟩:∃W3,False\/W1++mk W1.length D=W3:=⟨_,.inr rfl⟩;rw[hW3.resolve_left id]at ho7 hW3l ⊢;replace hW3l:W3.length<=W1.length+(o.sz-1)/\W1.length+(o.sz-1)<=W3.length:=byO;clear hDat hg2 ho2 hx2;have hs7:=hn.s.ext hx7;have hgs7:=hs7.g;have hr3:=hn.ha;obtain⟨pv,hpv,hsvA⟩:=P7 hn.s.pl hr3 hr;obtain⟨av,cv,rfl⟩:=hsvA.len;have hpv7:=hpv H7;have hRl:((p.drop a).take o.run).length=o.run:=by simp;omega
  rw[hRl]at hpv7 hsvA;obtain⟨E,hE⟩:∃E,False\/tV p a o.run=E:=⟨_,.inr rfl⟩;have hEl:E.length<=o.run/\o.run<=E.length:=by grind[tV]
  have hEat:False\/∀k,k<o.run->E.getD k 0=(((p.drop a).take o.run).getD k 0).toNat:=by
   right;intro k hk;rw[<-hE.resolve_left id];exact getD_map byO
  clear hpv;have hi:=hn.s.hi;refine aA ?_;have e5:(aQ o)[5]?=some (aB o.nx):=rfl;have e6:(aQ o)[6]?=some (aB o.md):=rfl;refine c8 (fun S' H'=>(Ext A H'/\OutH H' bo cap (W3++mk W3.length E)/\H'.get ob=some (aQ o))/\∃z:Nat->Value,S'=[ptr sb,z 1,jQ bo cap (W3++mk W3.length E),aB a,z 4,ptr ob,z 6,z 7,z 8,z 9,z 10,z 11,z 12,z 13,z 14,z 15,z 16,z 17,z 18,z 19,z 20,z 21,z 22,z 23,z 24,z 25,z 26,z 27,z 28,z 29]) ?_ ?_
  ·refine aS (fun k S H'=>(Ext A H'/\OutH H' bo cap (W3++mk W3.length (E.take k))/\H'.get ob=some (aQ o))/\∃(z:Nat->Value),S=[ptr sb,z 1,jQ bo cap (W3++mk W3.length (E.take k)),aB a,z 4,ptr ob,z 6,z 7,z 8,z 9,z 10,z 11,z 12,z 13,z 14,z 15,z 16,z 17,z 18,z 19,z 20,z 21,.slice av o.run cv,.int .i64 (o.run:Nat),.int .i64 (k:Nat),z 25,z 26,z 27,z 28,z 29]) o.run ⟨⟨hx7,by grind[mk],hg7⟩,aH (by simp_all[mk])⟩ ?_ ?_ ?_
   ·rintro k S H' hk ⟨_,z,rfl⟩
    exact⟨decide ((k:Int)<(o.run:Int)),by rfl,by simp⟩
   ·rintro k S H3 hk ⟨⟨hx3,ho3,hg3⟩,z,rfl⟩
    have hat0:=hEat.resolve_left id k hk;have hsn:=ql W3.length (E.take k) (E.getD k 0);rw[<-m6 (by omega:k<E.length),List.length_take_of_le (by omega:k<=E.length)]at hsn;have hml:=nT W3.length (E.take k);rw[List.length_take_of_le (by omega:k<=E.length)]at hml;obtain⟨bb,bo2,xs,hia,hgx,hxx⟩:=gN (hsvA.mono hx3) (k:=k) byO;rw[hsn,<-ba₀];have hxb:=(((p.drop a).take o.run).getD k 0).toNat_lt;replace hxx:xs[bo2]?=some (.int .u8 ((((p.drop a).take o.run).getD k 0).toNat:Nat)):=hxx;rw[<-hat0]at hxx hxb;generalize E.getD k 0=x at hxx hxb;have hWl:(W3++mk W3.length (E.take k)).length<=W3.length+k/\W3.length+k<=(W3++mk W3.length (E.take k)).length:=by simp[hml]
    have hle2:(W3++mk W3.length (E.take k)).length=W3.length+k:=byO;generalize W3++mk W3.length (E.take k)=W2 at ho3 hWl hle2;rw[<-hle2];clear hsn hml hle2 hat0 hgs7 hpv7;have hmm:msk W2.length<=256:=by grind[msk]
    have hl3:=hx3.1;refine aA ?_;refine aT ?_;refine aC (MB (lo:=lo) (k:=W2.length) byO) ?_;rintro r H4 ⟨rfl,rfl⟩;generalize msk W2.length=ms at hmm;have em:((x:Int)+(ms:Nat)).tmod 256=(((x+ms)%256:Nat):Int):=by grind
    have hy:(x+ms)%256<256:=byO;generalize (x+ms)%256=y at em hy;refine aA ?_;change wpS cp lo _ _ _ (H3++[some [aB y]]);have hxd:Ext H3 (H3++[some [aB y]]):=Ext.app _ _;have hgd:(H3++[some [aB y]]).get H3.length=some [aB y]:=aF;have hld:(H3++[some [aB y]]).length<=H3.length+1/\H3.length+1<=(H3++[some [aB y]]).length:=by simp
    generalize H3++[some [aB y]]=H5 at hxd hgd hld;refine aT ?_;refine wI (L:=[y]) (ho3.mono hxd) byO hgd (by simp) rfl rfl byO ?_;intro H6 ho6 hk6 hl6;have hx6:=hk6.ext (hx3.trans hxd) hlbo;have hg6:=hk6.get (hxd.get hg3) (fun e=>hn.ne e.symm);clear hgd;refine aA ?_;exact⟨⟨hx6,ho6,hg6⟩,aH ncM⟩
   ·rintro S H3 ⟨⟨hx3,ho3,hg3⟩,z,rfl⟩
    rw[List.take_of_length_le hEl.1]at *;(try simp only[aD]);exact⟨⟨hx3,ho3,hg3⟩,aH rfl⟩
  ·rintro S1 H8 ⟨⟨hx8,ho8,hg8⟩,z1,rfl⟩
   have hem:W3++mk W3.length E=W++emit p W.length a o:=by
    grind[emit,GF,nT]
   have hlen:(W3++mk W3.length E).length=W3.length+o.run:=by grind[nT]
   have hres:=hn.res;rw[<-hem]at hres;have hf:=hn.fuel;have hts:bP cs o=o.sz+o.run+cst cs o.nx o.md:=rfl;clear hem;generalize W3++mk W3.length E=W4 at ho8 hlen hres;replace hlen:W4.length<=W3.length+o.run/\W3.length+o.run<=W4.length:=byO;replace hres:False\/_:=.inr hres;replace hts:False\/_:=.inr hts;refine aA ?_;refine h0 _ _ W4 ⟨hn.s,hx8,ho8,⟨o,hg8⟩,hlbo,hlob,hn.ne,o3.2,o4,byO,hbig,?_,hres.resolve_left id⟩ (aH rfl)
   grind
theorem I8{J:Nat->Nat->List Value->Heap->Prop}{Q:bI}:F6 J Q .ret S H=Q .ret S H:=rfl
theorem I7{J:Nat->Nat->List Value->Heap->Prop}{m:Nat}{Q:bI}:F5 J m Q .ret S H=Q .ret S H:=rfl
theorem BW{J:Nat->Nat->List Value->Heap->Prop}{Q:bI}{l:Nat}(h:∃m,J m l S H):F6 J Q (.exit (1000000+l)) S H:=by
 show(if aa<=1000000+l then ∃m,J m (1000000+l-aa) S H else Q _ S H)
 simp_all[aa]
theorem qj{J:Nat->Nat->List Value->Heap->Prop}{m:Nat}{Q:bI}{l:Nat}(h:∃m',m'<m/\J m' l S H):F5 J m Q (.exit (1000000+l)) S H:=by
 show(if aa<=1000000+l then ∃m',m'<m/\J m' (1000000+l-aa) S H else Q _ S H)
 simp_all[aa]
theorem NdO.pos{A H:Heap}{a f:Nat}{o:Opt}{W:List Nat}(h:NdO A H sb cb bo ob cap v p cs R a f o W):cst cs o.nx o.md+1<=bP cs o:=by
 have:=h.ok.sz
 grind[bP]
theorem Pg(hs:SrH H sb cb v p cs)(hsol:Sol p cs)(hlo:lo<=H.length):Ev cp lo 76 [ptr sb] H (fun r H'=>Ext H H'/\SlN H' r (kW p cs)):=by
 refine stG rfl rfl ?_;rw[Hj];rw[lI];unfold wS0 mc;simp only[kB];have hgs:=hs.g;have hgc:=hs.c;have hlen:=hs.len;have hi:=hs.hi;have hcost:=lK hsol p.length 0 byO;have hat:=nC (cs:=cs) (k:=0*19+0) byO;generalize hcap:cst cs 0 0=cap at hcost hat;have hret:∀{S' H'} {bo:Nat} {R':List Nat},R'=kW p cs->Ext H H'->OutH H' bo cap R'->S'[1]?=some (jQ bo cap R')->jk ⟨0,0,[.var 1],.skip,.plain⟩ (fun r H'=>Ext H H'/\SlN H' r (kW p cs)) .ret S' H':=by
  intro S' H' bo R' hR hx ho hS;subst hR;refine jl (vs:=[jQ bo cap (kW p cs)]) ?_ ⟨hx,ho.sl⟩
  simp_all[evB]
 refine aA ?_;refine ED (jumps H sb cb H.length (H.length+1) cap v p cs (kW p cs)) ?_ ?_
 ·unfold wB1 wB mc
  simp only[kB];refine aA ?_;have hxb:Ext H (H++[some (aW (List.replicate cap 0)),some [Value.int .i64 0,Value.int .i64 0,Value.int .i64 0,Value.int .i64 0,Value.int .i64 0,Value.int .i64 0,Value.int .i64 0]]):=Ext.app _ _;have hg0:Heap.get (H++[some (aW (List.replicate cap 0)),some [Value.int .i64 0,Value.int .i64 0,Value.int .i64 0,Value.int .i64 0,Value.int .i64 0,Value.int .i64 0,Value.int .i64 0]]) H.length=some (aW (List.replicate cap 0)):=aF;have hg1:Heap.get (H++[some (aW (List.replicate cap 0)),some [Value.int .i64 0,Value.int .i64 0,Value.int .i64 0,Value.int .i64 0,Value.int .i64 0,Value.int .i64 0,Value.int .i64 0]]) (H.length+1)=some (aQ cC):=by rw[bC];rfl
  have hnd:Nd H (H++[some (aW (List.replicate cap 0)),some [Value.int .i64 0,Value.int .i64 0,Value.int .i64 0,Value.int .i64 0,Value.int .i64 0,Value.int .i64 0,Value.int .i64 0]]) sb cb H.length (H.length+1) cap v p cs (kW p cs) 0 0 (cst cs 0 0+1) []:=
   ⟨hs,hxb,⟨_,hg0,by simp[aW],by simp,by simp⟩,⟨cC,hg1⟩,Nat.le_refl _,byO,byO,byO,byO,by simp_all,byO,byO,rfl⟩
  refine E3 hsol hlo hnd (aH rfl) ?_ ?_ ?_
  ·grind[I8]
  ·intro f o H' S' hn ht hr hS
   refine BW (l:=1) ⟨_,.inr (.inl ⟨rfl,_,_,_,_,rfl,hr,hn,hS⟩)⟩
  ·intro f o W H' S' hn hlt hg hS
   exact BW (l:=2) ⟨_,.inr (.inr ⟨rfl,_,f,o,W,rfl,hn,hg,hS⟩)⟩
 ·rintro m l S H1 (⟨rfl,a,st,f,W,rfl,hn,hS⟩|⟨rfl,a,f,o,W,rfl,hr,hn,hS⟩|⟨rfl,a,f,o,W,rfl,hn,hg,hS⟩)
  ·refine zL (E3 hsol hlo hn hS ?_ ?_ ?_)
   ·grind[I7]
   ·intro f o H' S' hn ht hr hS
    have:=hn.pos;exact qj (l:=1) ⟨_,byO,.inr (.inl ⟨rfl,_,_,_,_,rfl,hr,hn,hS⟩)⟩
   ·intro f o W H' S' hn hlt hg hS
    exact qj (l:=2) ⟨_,byO,.inr (.inr ⟨rfl,_,f,o,W,rfl,hn,hg,hS⟩)⟩
  ·refine vF (by decide) (zL (NT hlo hn hr hS ?_))
   intro S' H' W' hn' hS';have:=hn.pos;obtain⟨z,rfl⟩:=hS';exact qj (l:=0) ⟨_,byO,.inl ⟨rfl,_,_,f,W',rfl,hn',aH rfl⟩⟩
  ·refine vF (by decide) (vF (by decide) (zL (NU hn hg hS ?_)))
   intro S' hS';obtain⟨z,rfl⟩:=hS';exact qj (l:=0) ⟨_,byO,.inl ⟨rfl,_,_,f,W,rfl,hn,aH rfl⟩⟩
end
section
variable {lo:Nat}{H:Heap}{v:Value}{p:List UInt8}
open XYe
theorem UC(hp:SlU H v p)(hl:p.length<=4096)(hlo:lo<=H.length):Ev cp lo 38 [v] H (fun r H'=>Ext H H'/\∃u cs,New p 0 cs/\r=.tuple #[u,.int .i64 0]/\SlN H' u (kW p cs)):=by
 obtain⟨ad,c,ev⟩:=hp.len;subst ev;refine stG rfl rfl ?_;unfold QK;simp only[kB,aD];refine aA ?_;refine aP ?_ ?_<;>intro h
 ·exfalso;simp at h;omega
 clear h;refine bF ?_;refine aC (Uh hp hl hlo) ?_;rintro r H1 ⟨hx1,sb,cb,cs,rfl,hn,hs⟩;have hl1:=hx1.1;replace hn:False\/_:=.inr hn;refine bF ?_;refine aC (Pg hs.s (Bn (hn.resolve_left id)) byO) ?_;rintro r H2 ⟨hx2,hsl⟩;refine aA ?_;refine aK ?_;exact⟨hx1.trans hx2,r,cs,hn.resolve_left id,rfl,hsl⟩
end
theorem uB{l:List Nat}(h:Sl aB H v l):SlI H v (l.map (fun i:Nat=>(i:Int))):=by
 rcases h with ⟨rfl,rfl⟩|⟨b,o,sp,cap,xs,h1,h2,h3,h4,h5⟩
 ·exact .inl ⟨rfl,rfl⟩
 ·refine .inr ⟨b,o,sp,cap,xs,by rw[h1];simp,h2,?_,by simpa using h4,by simpa using h5⟩
  rw[ay₀,h3,List.map_map];rfl
theorem tW{d:Nat}{c:List Value}(h:H.get d=some c):H.set d (some c)=H:=by
 have hl:=Heap.get_lt h;apply List.ext_getElem (by simp);intro i h1 h2;rw[List.getElem_set];split
 ·rename_i e
  subst e;rw[eR,bc₀ hl]at h;revert h;cases H[d]with
  | none=>intro h;simp at h
  | some x=>intro h;simp at h;rw[h]
 ·rfl
theorem Hk{cp:FuncId->Option CF}{lo:Nat}{p D:List Int}{d n c:Nat}{R:Value->Heap->Prop}(hlo:lo<=d)(hd:H.get d=some (aW D))(hn:D.length=n)(hp:SlI H v p)(k:∀w,R w (H.set d (some (aW (p.take n++D.drop (min p.length n)))))):wpH cp lo (.cpy 1) [.slice (some ⟨d,0,none⟩) n c,v] H R:=by
 simp only[wpH];rcases hp with ⟨rfl,rfl⟩|⟨b,o,sp,cap,xs,rfl,hb,hx,hlen,-⟩
 ·simp only[cK,hsem,if_true]
  have:=k (.int .i64 0);simp only[an₀,Nat.zero_min,List.take_nil,List.drop_zero,List.nil_append]at this;rwa [tW hd]at this
 ·rw[AA hlo,hb,hd]
  have hx2:(xs.drop o).take (min p.length n*1)=aW (p.take n):=by
   have:((xs.drop o).take p.length).take n=(p.map (Value.int .i64)).take n:=by rw[hx]
   rw[List.take_take,<-List.map_take]at this;rw[Nat.mul_one,Nat.min_comm];exact this
  have h1:o+min p.length n*1<=xs.length:=byO;have h2:0+min p.length n*1<=(aW D).length:=by rw[eE];omega
  simp only[h1,h2,hx2,pO,and_self,if_true];have hpc:putCells (aW D) 0 (aW (p.take n))=aW (p.take n++D.drop (min p.length n)):=by
   rw[sX,jE,uQ,eE,List.length_take,Nat.min_comm]
  rw[hpc];exact k _
theorem HM{l:List Int}{k:Nat}(h:SlI H v l)(hk:k<l.length):∃b o xs,aJ (.iAddr 1) [v,.int .i64 (k:Nat)] H=some (.pointer (some ⟨b,o,none⟩))/\H.get b=some xs/\xs[o]?=some (.int .i64 (l.getD k 0)):=by
 obtain⟨b,o,sp,cap,xs,rfl,h2,h3,h4⟩:=h.els 0 byO;refine⟨b,o+k,xs,?_,h2,h3 k hk⟩;rw[lV byO byO];simp
def pI(l:List Int):Bool:=l.all fun x=>decide (0<=x)&&decide (x<=255)
def sR(k i:Nat):Nat:=if i=k then 129 else if 130+149*(i+1)%253>254 then 130+149*(i+1)%253-254 else 130+149*(i+1)%253
abbrev yY(k i:Nat):Int:=(sR k i:Nat)
def fA(l:List Int)(m:Nat):List Int:=l++(List.range m).map fun j=>yY l.length (l.length+j)
theorem kC(l:List Int)(m:Nat):(fA l m).length=l.length+m:=by simp[fA]
theorem u6(l:List Int)(m:Nat):fA l (m+1)=fA l m++[yY l.length (l.length+m)]:=by
 unfold fA;rw[List.range_succ,List.map_append,ba₀];rfl
def wJ(l:List Int)(n:Int):Int ⊕ List Int:=if pI l=false then .inl 3 else if n>8192 then .inl 4 else if n<l.length then .inl 16 else .inr (fA l (n.toNat-l.length))
def MA(H':Heap)(r:Value):Int ⊕ List Int->Prop
 | .inl e=>r=.tuple #[.slice none 0 0,.int .i64 e]
 | .inr w=>∃u,r=.tuple #[u,.int .i64 0]/\SlI H' u w
theorem xX{l:List Int}{k:Nat}(hk:k<l.length)(h:pI (l.take k)=true):pI (l.take (k+1))=(decide (0<=l.getD k 0)&&decide (l.getD k 0<=255)):=by
 unfold pI at *;rw[List.take_succ_eq_append_getElem hk,List.all_append,h];simp[au₀,hk]
theorem Ew{l:List Int}{k:Nat}(hk:k<l.length)(h:(decide (0<=l.getD k 0)&&decide (l.getD k 0<=255))=false):pI l=false:=by
 rw[Bool.eq_false_iff];intro h2;have:=List.all_eq_true.1 h2 (l.getD k 0) (by rw[au₀,bc₀ hk];exact List.getElem_mem hk);rw[this]at h;cases h
section
variable {lo:Nat}{H:Heap}{v:Value}{l:List Int}
open XYe
theorem Ul{n:Int}(hv:SlI H v l)(hl:l.length<=100000)(hn:IntKind.i64.min<=n/\n<=IntKind.i64.max)(hlo:lo<=H.length):Ev cp lo 40 [v,.int .i64 n] H (fun r H'=>Ext H H'/\MA H' r (wJ l n)):=by
 obtain⟨ad,c,ev⟩:=hv.len;have hv0:=hv;rw[ev]at hv ⊢;refine stG rfl rfl ?_;unfold QM;simp only[kB,aD];refine aA ?_;refine aS (fun k S H'=>(H=H'/\pI (l.take k)=true)/\∃(z:Nat->Value),S=[.slice ad l.length c,.int .i64 n,z 2,z 3,z 4,z 5,z 6,.slice ad l.length c,.int .i64 (l.length:Nat),.int .i64 (k:Nat),z 10]) l.length ⟨⟨rfl,rfl⟩,aH rfl⟩ ?_ ?_ ?_
 ·rintro k S H' hk ⟨_,z,rfl⟩
  exact⟨decide ((k:Int)<(l.length:Nat)),by simp(disch:=try exact dO)only[evB,xtr,Nat.reduceAdd,Nat.reduceBEq,Int.reduceToNat, *],by simp⟩
 ·rintro k S H' hk ⟨⟨rfl,hcw⟩,z,rfl⟩
  have hcw2:=xX hk hcw;have hno:=Ew hk;obtain⟨b1,o1,x1,i1,g1,e1⟩:=HM hv hk;generalize l.getD k 0=x at e1 hcw2 hno;replace hno:False\/_:=.inr hno;clear hcw;refine aA ?_;by_cases hx:0<=x/\x<=255
  ·obtain⟨hx1,hx2⟩:=hx
   rw[decide_eq_true hx1,decide_eq_true hx2]at hcw2;have hd1:decide (x<0)=false:=decide_eq_false byO;have hd2:decide (x>255)=false:=decide_eq_false byO;have hd3:decide (255<x)=false:=decide_eq_false byO;refine an ?_;clear hd1 hd2 hd3;refine aA ?_;exact⟨⟨trivial,hcw2⟩,aH ncM⟩
  ·have hc:pI l=false:=hno.resolve_left id (by
    simp only[Bool.and_eq_false_iff,ai₀];omega)
   have hd:(decide (x<0) || decide (x>255))=true:=by simp;omega
   refine bL ?_;refine aA ?_;refine aK ?_;exact⟨Ext.refl _,by unfold wJ;rw[hc];rfl⟩
 ·rintro S H' ⟨⟨rfl,hcw⟩,z,rfl⟩
  rw[List.take_length]at hcw;unfold wJ;rw[hcw];simp only[Bool.true_eq_false,if_false];clear hcw;(try simp only[aD]);by_cases h8:n>8192
  ·have hd:decide (n>8192)=true:=decide_eq_true h8
   rw[if_pos h8];refine bL ?_;refine aA ?_;refine aK ?_;exact⟨Ext.refl _,rfl⟩
  have hd:decide (n>8192)=false:=decide_eq_false h8;rw[if_neg h8];refine an ?_;clear hd;(try simp only[aD]);by_cases hnl:n<l.length
  ·have hd:decide (n<(l.length:Nat))=true:=decide_eq_true hnl
   rw[if_pos hnl];refine bL ?_;refine aA ?_;refine aK ?_;exact⟨Ext.refl _,rfl⟩
  have hd:decide (n<(l.length:Nat))=false:=decide_eq_false hnl;rw[if_neg hnl];refine an ?_;clear hd;obtain⟨m,rfl⟩:∃m:Nat,n=((l.length+m:Nat):Int):=⟨n.toNat-l.length,byO⟩;rw[show(((l.length+m:Nat):Int)).toNat-l.length=m by omega];replace hnl:l.length+m<=8192:=byO;replace h8:m<=8192:=byO;refine aA ?_;have hxb:Ext H (H++[some (aW (List.replicate (l.length+m) 0))]):=Ext.app _ _;have hg0:(H++[some (aW (List.replicate (l.length+m) 0))]).get H.length=some (aW (List.replicate (l.length+m) 0)):=aF;generalize H++[some (aW (List.replicate (l.length+m) 0))]=H0 at hxb hg0;have hbl:=Heap.get_lt hg0;refine aT ?_;rw[<-ev];refine Hk hlo hg0 (by simp) (hv0.mono hxb) ?_;intro w;rw[ev];have hcp:l.take (l.length+m)++(List.replicate (l.length+m) 0).drop (min l.length (l.length+m))=fA l 0++List.replicate (m-0) 0:=by
   rw[List.take_of_length_le byO,Nat.min_eq_left byO,List.drop_replicate,Nat.sub_zero,show l.length+m-l.length=m by omega];simp[fA]
  rw[hcp];have hx1:Ext H (List.set H0 H.length (some (aW (fA l 0++List.replicate (m-0) 0)))):=keepSet.ext hxb (Nat.le_refl _);have hg1:Heap.get (List.set H0 H.length (some (aW (fA l 0++List.replicate (m-0) 0)))) H.length=some (aW (fA l 0++List.replicate (m-0) 0)):=aG hbl;generalize List.set H0 H.length (some (aW (fA l 0++List.replicate (m-0) 0)))=H1 at hx1 hg1;clear hg0 hcp hxb hbl;refine aA ?_;refine aS (fun j S H'=>(Ext H H'/\H'.get H.length=some (aW (fA l j++List.replicate (m-j) 0)))/\∃(z:Nat->Value),S=[.slice ad l.length c,.int .i64 ((l.length+m:Nat):Int),z 2,z 3,z 4,.slice (some ⟨H.length,0,none⟩) (l.length+m) (l.length+m),.int .i64 ((l.length+j:Nat):Int),z 7,z 8,z 9,z 10]) m ⟨⟨hx1,hg1⟩,aH ncM⟩ ?_ ?_ ?_
  ·rintro j S H' hj ⟨_,z,rfl⟩
   exact⟨decide (((l.length+j:Nat):Int)<((l.length+m:Nat):Int)),by simp(disch:=try exact dO)only[evB,xtr,Nat.reduceAdd,Nat.reduceBEq,Int.reduceToNat, *],by simp⟩
  ·rintro j S H2 hj ⟨⟨hx2,hg2⟩,z,rfl⟩
   clear hg1 hx1;have hbl:=Heap.get_lt hg2;have hset:∀y,(aW (fA l j++List.replicate (m-j) 0)).set (l.length+j) (.int .i64 y)=aW ((fA l j++[y])++List.replicate (m-(j+1)) 0):=by
    intro y;rw[show m-j=(m-(j+1))+1 by omega,List.replicate_succ];unfold aW;rw[List.map_append,List.set_append_right _ _ (by simp[kC]),ay₀,kC,Nat.sub_self];simp
   have hYl:(aW (fA l j++List.replicate (m-j) 0)).length<=l.length+m/\l.length+m<=(aW (fA l j++List.replicate (m-j) 0)).length:=by
    rw[eE,as₀,kC,List.length_replicate];omega
   rw[u6];replace hset:False\/_:=.inr hset;obtain⟨i,hi⟩:∃i,False\/l.length+j=i:=⟨_,.inr rfl⟩;rw[hi.resolve_left id]at hset ⊢;have hil:i<l.length+m:=by have:=hi.resolve_left id;omega
   generalize aW (fA l j++List.replicate (m-j) 0)=Y at hg2 hYl hset;have hY1:∀y,(Y.set i (.int .i64 y))[i]?=some (.int .i64 y):=fun y=>by rw[List.getElem?_set_self byO]
   have hfin:False\/∀(y:Int) (H':Heap),y=yY l.length i->Ext H H'->H'.get H.length=some (Y.set i (.int .i64 y))->(Ext H H'/\H'.get H.length=some (aW ((fA l j++[yY l.length i])++List.replicate (m-(j+1)) 0))):=by
    right;intro y H' hy h1 h2;subst hy;exact⟨h1,by rw[h2,hset.resolve_left id]⟩
   have hpv:False\/sR l.length i=if i=l.length then 129 else if 130+149*(i+1)%253>254 then 130+149*(i+1)%253-254 else 130+149*(i+1)%253:=.inr rfl
   have hi2:((i+1:Nat):Int)=((l.length+(j+1):Nat):Int):=by have:=hi.resolve_left id;omega
   rw[<-hi2];clear hi2;have hll:Ext H (List.set H2 H.length (some (Y.set i (.int .i64 129)))):=keepSet.ext hx2 (Nat.le_refl _);have em:(149*((i:Int)+1)).tmod 253=((149*(i+1)%253:Nat):Int):=by rw[Int.tmod_eq_emod_of_nonneg byO];omega
   have hq:149*(i+1)%253<=252:=byO;generalize 149*(i+1)%253=q at em hq hpv;refine aA ?_;have hgY:=hY1 129;have hYl1:(Y.set i (.int .i64 129)).length<=l.length+m/\l.length+m<=(Y.set i (.int .i64 129)).length:=by simp;omega
   have hg3:Heap.get (List.set H2 H.length (some (Y.set i (.int .i64 129)))) H.length=some (Y.set i (.int .i64 129)):=aG hbl;have hbl3:=Heap.get_lt hg3;by_cases hj0:i=l.length
   ·have hd:decide ((i:Int)>(l.length:Nat))=false:=decide_eq_false byO
    have hp:=hpv.resolve_left id;rw[if_pos hj0]at hp;have hfi:=hfin.resolve_left id 129 _ (by unfold yY;rw[hp];rfl) hll hg3;generalize List.set H2 H.length (some (Y.set i (.int .i64 129)))=H3 at hfi hg3 hbl3;generalize Y.set i (.int .i64 129)=Y1 at hgY hYl1 hg3;replace hfi:False\/_:=.inr hfi;replace hj0:i<=l.length/\l.length<=i:=byO;clear hp hY1;refine an ?_;clear hd;refine aA ?_;refine an ?_;refine aA ?_;exact⟨hfi.resolve_left id,aH ncM⟩
   ·have hd:decide ((i:Int)>(l.length:Nat))=true:=decide_eq_true (by have:=hi.resolve_left id;omega)
    have hp:=hpv.resolve_left id;rw[if_neg hj0]at hp;have hss:∀y,(Y.set i (.int .i64 129)).set i (.int .i64 y)=Y.set i (.int .i64 y):=fun y=>List.set_set ..;generalize hY1e:Y.set i (.int .i64 129)=Y1 at hgY hYl1 hg3 hss;have hx3:Ext H (List.set H2 H.length (some Y1)):=by rw[<-hY1e];exact hll
    generalize List.set H2 H.length (some Y1)=H3 at hg3 hbl3 hx3;clear hY1e hll hg2 hbl hbl3;have hbl3:=Heap.get_lt hg3;replace hp:False\/_:=.inr hp;replace hss:False\/_:=.inr hss;refine bL ?_;clear hd;refine aA ?_;rw[show(129:Int)+((q:Int)+1)=((130+q:Nat):Int) by omega];generalize hw:130+q=w at hp;replace hw:w<=382/\q<=w:=byO;clear em hpv hY1;have hgY2:(Y1.set i (.int .i64 (w:Nat)))[i]?=some (.int .i64 (w:Nat)):=by rw[List.getElem?_set_self byO]
    have hg4:Heap.get (List.set H3 H.length (some (Y1.set i (.int .i64 (w:Nat))))) H.length=some (Y1.set i (.int .i64 (w:Nat))):=aG hbl3;have hx4:Ext H (List.set H3 H.length (some (Y1.set i (.int .i64 (w:Nat))))):=keepSet.ext hx3 (Nat.le_refl _);have hbl4:=Heap.get_lt hg4;have hYl2:(Y1.set i (.int .i64 (w:Nat))).length<=l.length+m/\l.length+m<=(Y1.set i (.int .i64 (w:Nat))).length:=by simp;omega
    have hss2:False\/∀y,(Y1.set i (.int .i64 (w:Nat))).set i (.int .i64 y)=Y1.set i (.int .i64 y):=.inr (fun y=>List.set_set ..);generalize List.set H3 H.length (some (Y1.set i (.int .i64 (w:Nat))))=H4 at hg4 hx4 hbl4;by_cases h254:w>254
    ·have hd:decide ((w:Int)>254)=true:=decide_eq_true byO
     have hp2:=hp.resolve_left id;rw[if_pos h254]at hp2;have e2:=hss.resolve_left id (w:Nat);generalize Y1.set i (.int .i64 (w:Nat))=Y2 at hgY2 hg4 hYl2 hss2 e2;clear hgY hg3 hbl3 hp e2;replace hp2:False\/_:=.inr hp2;refine bL ?_;clear hd;refine aA ?_;have hfi:=hfin.resolve_left id ((w:Int)-254) (List.set H4 H.length (some (Y2.set i (.int .i64 ((w:Int)-254))))) (by unfold yY;rw[hp2.resolve_left id];omega) (keepSet.ext hx4 (Nat.le_refl _)) (by rw[aG hbl4,hss2.resolve_left id,hss.resolve_left id]);exact⟨hfi,aH ncM⟩
    ·have hd:decide ((w:Int)>254)=false:=decide_eq_false byO
     have hp2:=hp.resolve_left id;rw[if_neg h254]at hp2;have hfi:=hfin.resolve_left id (w:Nat) H4 (by unfold yY;rw[hp2]) hx4 (by rw[hg4,hss.resolve_left id]);replace hfi:False\/_:=.inr hfi;clear hp2 hp;generalize Y1.set i (.int .i64 (w:Nat))=Y2 at hgY2 hg4 hYl2 hss2;refine aP ?_ ?_<;>intro h
     ·simp at h
     ·clear h hd
      refine aA ?_;exact⟨hfi.resolve_left id,aH ncM⟩
  ·rintro S H2 ⟨⟨hx2,hg2⟩,z,rfl⟩
   rw[Nat.sub_self,List.replicate_zero,List.append_nil]at hg2;have hsl:SlI H2 (.slice (some ⟨H.length,0,none⟩) (l.length+m) (l.length+m)) (fA l m):=Sl.whole hg2 (kC l m);clear hg2;refine aA ?_;refine aK ?_;exact⟨hx2,_,rfl,hsl⟩
end
section
variable {lo:Nat}{H:Heap}{v:Value}{l:List Int}
open XYe
theorem VD(hv:SlI H v l)(hl:l.length<=100000):Ev cp lo 81 [v] H (fun r H'=>H=H'/\r=.bool (pI l)):=by
 obtain⟨ad,c,ev⟩:=hv.len;rw[ev]at hv ⊢;refine stG rfl rfl ?_;unfold Qh;simp only[kB,aD];refine aA ?_;refine aS (fun k S H'=>(H=H'/\pI (l.take k)=true)/\∃(z:Nat->Value),S=[.slice ad l.length c,z 1,.int .i64 (k:Nat)]) l.length ⟨⟨rfl,rfl⟩,aH rfl⟩ ?_ ?_ ?_
 ·rintro k S H' hk ⟨_,z,rfl⟩
  exact⟨decide ((k:Int)<(l.length:Nat)),by simp(disch:=try exact dO)only[evB,xtr,Nat.reduceAdd,Nat.reduceBEq,Int.reduceToNat, *],by simp⟩
 ·rintro k S H' hk ⟨⟨rfl,hcw⟩,z,rfl⟩
  have hcw2:=xX hk hcw;have hno:=Ew hk;obtain⟨b1,o1,x1,i1,g1,e1⟩:=HM hv hk;generalize l.getD k 0=x at e1 hcw2 hno;replace hno:False\/_:=.inr hno;clear hcw;(try simp only[aD]);by_cases hx:0<=x/\x<=255
  ·obtain⟨hx1,hx2⟩:=hx
   rw[decide_eq_true hx1,decide_eq_true hx2]at hcw2;have hd1:decide (x<0)=false:=decide_eq_false byO;have hd2:decide (x>255)=false:=decide_eq_false byO;have hd3:decide (255<x)=false:=decide_eq_false byO;refine an ?_;clear hd1 hd2 hd3;refine aA ?_;exact⟨⟨trivial,hcw2⟩,aH ncM⟩
  ·have hc:pI l=false:=hno.resolve_left id (by
    simp only[Bool.and_eq_false_iff,ai₀];omega)
   have hd:(decide (x<0) || decide (x>255))=true:=by simp;omega
   rw[hc];refine bL ?_;refine aA ?_;refine aK ?_;exact⟨rfl,rfl⟩
 ·rintro S H' ⟨⟨rfl,hcw⟩,z,rfl⟩
  rw[List.take_length]at hcw;rw[hcw];clear hcw;refine aA ?_;refine aK ?_;exact⟨rfl,rfl⟩
theorem Mr{cp:FuncId->Option CF}{z:List Value}{R:Value->Heap->Prop}(hv:SlI H v l)(hlo:lo<=H.length)(hl:l.length<=100000)
  (k:∀w H',Own lo 1 H' w H.length (aW l)->Ext H H'->(H'.length=H.length/\l=[]\/H'.length=H.length+1)->R w H'):wpH cp lo (.app 1 z) [.slice none 0 0,v] H R:=by
 rcases hv with ⟨rfl,rfl⟩|⟨b,o,sp,cap,xs,rfl,hb,hx,hlen,-⟩
 ·simp only[wpH,cK,hsem,aZ]
  exact k _ _ (Own.nil hlo) (Ext.refl _) (.inl ⟨rfl,rfl⟩)
 ·by_cases h0:l.length=0
  ·have:l=[]:=List.length_eq_zero_iff.1 h0
   subst this;have e1:H.cells b o (0*1)=some []:=by rw[cells_get hb (by simpa using hlen)];simp
   simp only[wpH,cK,hsem,an₀,e1,ao₀,aZ];exact k _ _ (Own.nil hlo) (Ext.refl _) (.inl ⟨rfl,rfl⟩)
  ·refine di (Own.nil (b:=H.length) hlo) hlo byO byO (by simp;omega) hb (c:=aW l) byO (by rw[Nat.mul_one];exact hx) (pO l) ?_
   intro w H' ho hk hl';exact k w H' (by simpa using ho) (hk.ext (Ext.refl _) (Nat.le_refl _)) (.inr hl')
theorem Sg{n:Int}(hv:SlI H v l)(hl:l.length<=100000)(hn:IntKind.i64.min<=n/\n<=IntKind.i64.max)(hlo:lo<=H.length):Ev cp lo 43 [v,.int .i64 n] H (fun r H'=>Ext H H'/\MA H' r (wJ l n)):=by
 obtain⟨ad,c,ev⟩:=hv.len;have hv0:=hv;rw[ev]at hv ⊢;refine stG rfl rfl ?_;unfold QP;simp only[kB,aD];refine aA ?_;refine aT ?_;refine aC (VD hv hl) ?_;rintro r H1 ⟨rfl,rfl⟩;unfold wJ;cases hcw:pI l with
 | false=>
  (try simp only[aD]);refine bL ?_;refine aA ?_;refine aK ?_;exact⟨Ext.refl _,rfl⟩
 | true=>
  simp only[Bool.true_eq_false,if_false];clear hcw;(try simp only[aD]);refine an ?_;(try simp only[aD]);by_cases h8:n>8192
  ·have hd:decide (n>8192)=true:=decide_eq_true h8
   rw[if_pos h8];refine bL ?_;refine aA ?_;refine aK ?_;exact⟨Ext.refl _,rfl⟩
  have hd:decide (n>8192)=false:=decide_eq_false h8;rw[if_neg h8];refine an ?_;clear hd;(try simp only[aD]);by_cases hnl:n<l.length
  ·have hd:decide (n<(l.length:Nat))=true:=decide_eq_true hnl
   rw[if_pos hnl];refine bL ?_;refine aA ?_;refine aK ?_;exact⟨Ext.refl _,rfl⟩
  have hd:decide (n<(l.length:Nat))=false:=decide_eq_false hnl;rw[if_neg hnl];refine an ?_;clear hd;obtain⟨m,rfl⟩:∃m:Nat,n=((l.length+m:Nat):Int):=⟨n.toNat-l.length,byO⟩;rw[show(((l.length+m:Nat):Int)).toNat-l.length=m by omega];replace hnl:l.length+m<=8192:=byO;replace h8:m<=8192:=byO;refine aA ?_;refine aT ?_;refine Mr hv hlo hl ?_;intro w H1 ho hx1 hl1;replace hl1:H.length<=H1.length:=hx1.1;have hp0:fA l 0=l:=by simp[fA]
  rw[<-hp0]at ho;clear hp0;refine aA ?_;refine aS (fun j S H'=>Ext H H'/\∃w b,(H.length<=b/\Own lo 1 H' w b (aW (fA l j)))/\∃(z:Nat->Value),S=[.slice ad l.length c,.int .i64 ((l.length+m:Nat):Int),z 2,z 3,w,.int .i64 ((l.length+j+1:Nat):Int),z 6,z 7,z 8,z 9,z 10,z 11]) m ⟨hx1,_,_,⟨Nat.le_refl _,ho⟩,aH ncM⟩ ?_ ?_ ?_
  ·rintro j S H' hj ⟨_,w,b,_,z,rfl⟩
   exact⟨decide (((l.length+j+1:Nat):Int)<=((l.length+m:Nat):Int)),by simp(disch:=try exact dO)only[evB,xtr,Nat.reduceAdd,Nat.reduceBEq,Int.reduceToNat, *],by simp;omega⟩
  ·rintro j S H2 hj ⟨hx2,w,b,⟨hb,ho⟩,z,rfl⟩
   have hl2:=hx2.1;rw[u6];have hPl:=kC l j;replace hPl:(fA l j).length<=l.length+j/\l.length+j<=(fA l j).length:=byO;generalize fA l j=P at ho hPl;obtain⟨i,hi⟩:∃i,False\/l.length+j=i:=⟨_,.inr rfl⟩;have hi2:((i+1+1:Nat):Int)=((l.length+(j+1)+1:Nat):Int):=by have:=hi.resolve_left id;omega
   rw[<-hi2];rw[hi.resolve_left id];have hil:i<l.length+m:=by have:=hi.resolve_left id;omega
   have hil2:l.length<=i:=by have:=hi.resolve_left id;omega
   clear hi2;have hpv:False\/sR l.length i=if i=l.length then 129 else if 130+149*(i+1)%253>254 then 130+149*(i+1)%253-254 else 130+149*(i+1)%253:=.inr rfl
   have em:(149*((i+1:Nat):Int)).tmod 253=((149*(i+1)%253:Nat):Int):=by rw[Int.tmod_eq_emod_of_nonneg byO];omega
   have hq:149*(i+1)%253<=252:=byO;generalize 149*(i+1)%253=q at em hq hpv;refine aA ?_;refine ba (fun S' H'=>H2=H'/\∃y:Nat,(y<=400/\(False\/sR l.length i=if y>254 then y-254 else y))/\∃(z:Nat->Value),S'=[.slice ad l.length c,.int .i64 ((l.length+m:Nat):Int),z 2,z 3,w,.int .i64 ((i+1:Nat):Int),.int .i64 (y:Nat),z 7,z 8,z 9,z 10,z 11]) ?_ ?_
   ·by_cases hj0:i=l.length
    ·have hd:decide (((i+1:Nat):Int)>(l.length:Nat)+1)=false:=decide_eq_false byO
     have hd2:decide (((l.length:Nat):Int)+1<((i+1:Nat):Int))=false:=decide_eq_false byO;have hp:=hpv.resolve_left id;rw[if_pos hj0]at hp;replace hp:False\/sR l.length i=if 129>254 then 129-254 else 129:=.inr hp
     replace hj0:i<=l.length:=byO;clear hpv;refine an ?_;clear hd hd2;(try simp only[aD]);exact⟨by trivial,129,⟨byO,hp⟩,aH ncM⟩
    ·have hd:decide (((i+1:Nat):Int)>(l.length:Nat)+1)=true:=decide_eq_true byO
     have hd2:decide (((l.length:Nat):Int)+1<((i+1:Nat):Int))=true:=decide_eq_true byO;have hp:=hpv.resolve_left id;rw[if_neg hj0]at hp;replace hp:False\/_:=.inr hp;have e1:(129:Int)+(q:Nat)+1=((130+q:Nat):Int):=byO;clear hpv;refine bL ?_;clear hd hd2;refine aA ?_;exact⟨by trivial,130+q,⟨byO,hp⟩,aH ncM⟩
   ·rintro S' H3 ⟨rfl,y,⟨hy,hp⟩,z,rfl⟩
    clear hpv em hq;(try simp only[aD]);refine ba (fun S' H'=>H2=H'/\∃(z:Nat->Value),S'=[.slice ad l.length c,.int .i64 ((l.length+m:Nat):Int),z 2,z 3,w,.int .i64 ((i+1:Nat):Int),.int .i64 (sR l.length i:Nat),z 7,z 8,z 9,z 10,z 11]) ?_ ?_
    ·generalize sR l.length i=pn at hp ⊢
     by_cases h254:y>254
     ·have hd:decide ((y:Int)>254)=true:=decide_eq_true byO
      have hp2:=hp.resolve_left id;rw[if_pos h254]at hp2;subst hp2;have e1:(y:Int)-254=((y-254:Nat):Int):=byO;refine bL ?_;clear hd;refine aA ?_;exact⟨by trivial,aH ncM⟩
     ·have hd:decide ((y:Int)>254)=false:=decide_eq_false byO
      have hp2:=hp.resolve_left id;rw[if_neg h254]at hp2;subst hp2;refine aP ?_ ?_<;>intro h
      ·simp at h
      ·clear h hd
       (try simp only[aD]);exact⟨by trivial,aH ncM⟩
    ·rintro S' H3 ⟨rfl,z,rfl⟩
     clear hp;unfold yY;generalize sR l.length i=pn;refine aA ?_;have hxd:Ext H2 (H2++[some [aB pn]]):=Ext.app _ _;refine aT ?_;refine di (c:=[aB pn]) (ho.mono hxd) (by simp;omega) byO byO (by rw[eE];omega) aF (by simp) rfl rfl ?_;intro w' H4 ho4 hk4 hl4;have hx4:=hk4.ext (hx2.trans hxd) hb;have ho5:Own lo 1 H4 w' (H2.length+1) (aW (P++[((pn:Nat):Int)])):=by simpa[aW]using ho4
     clear ho4;refine aA ?_;exact⟨hx4,w',H2.length+1,⟨byO,ho5⟩,aH ncM⟩
  ·rintro S H2 ⟨hx2,w,b,⟨hb,ho⟩,z,rfl⟩
   have hsl:SlI H2 w (fA l m):=Sl.ofOwn ho;clear ho;refine aA ?_;refine aK ?_;exact⟨hx2,_,rfl,hsl⟩
end
def fi(lower:Bool)(set v:Nat):Nat:=
 if set=0/\v=3 then 32 else if set=0/\4<=v/\v<=13 then 44+v else if set=0/\14<=v then(if lower then 83+v else 51+v)
 else if set=1/\v<=31 then v else if set=2/\v<=14 then 33+v else if set=2/\v<=21 then 43+v else if set=2/\v<=26 then 69+v
 else if set=3/\v<=31 then(if lower=true/\1<=v/\v<=26 then 64+v else 96+v) else 128
def lz(v:Nat):Nat:=if 14<=v then 51+v else if 4<=v then 44+v else if v=0 then 13 else if v=1 then 42 else if v=2 then 62 else 32
end Go.Proofs.YtmnlgdpdgjbfgaaGreat
