/- Lemmas. -/
import Derived.Test.YtmnlgdpdgjbfgaaGreatL26
set_option linter.all false
namespace Go.Proofs.YtmnlgdpdgjbfgaaGreat
open Go.Abs
variable{H:Heap}{S:List Value}{v:Value}
set_option maxRecDepth 20000
def wS0:Stm:=match mF with | .seq s _=>s|_=>.skip
def wB:Stm:=match mF with | .seq _ (.scope b _)=>b|_=>.skip
def wB1:Stm:=match wB with | .seq s _=>s|_=>.skip
def wB2:Stm:=match wB with | .seq _ (.seq s _)=>s|_=>.skip
def wB3:Stm:=match wB with | .seq _ (.seq _ (.seq s _))=>s|_=>.skip
def wA0:Stm:=match mF with | .seq _ (.scope _ (.alt _ a _))=>a|_=>.skip
def wA1:Stm:=match mF with | .seq _ (.scope _ (.alt _ _ (.alt _ a _)))=>a|_=>.skip
def wA2:Stm:=match mF with | .seq _ (.scope _ (.alt _ _ (.alt _ _ (.alt _ a _))))=>a|_=>.skip
def wA3:Stm:=match mF with | .seq _ (.scope _ (.alt _ _ (.alt _ _ (.alt _ _ a))))=>a|_=>.skip
theorem Fk:mF=.seq wS0 (.scope (.seq wB1 (.seq wB2 (.seq wB3 wA0))) (.alt 0 wA0 (.alt 1 wA1 (.alt 2 wA2 wA3)))):=by kernel_rfl
section
variable {lo:Nat}{A:Heap}{sb cb bo ob cap:Nat}{v:Value}{p:List UInt8}{cs R:List Nat}
structure Nd (A H:Heap)(sb cb bo ob cap:Nat)(v:Value)(p:List UInt8)(cs R:List Nat)(a st f:Nat)(W:List Nat):Prop where
 s:SrH A sb cb v p cs
 ext:Ext A H
 out:OutH H bo cap W
 op:∃o,H.get ob=some (aM o)
 lbo:A.length<=bo
 lob:A.length<=ob
 ne:bo≠ob
 ha:a<=p.length
 hs:st<19
 cost:W.length+cst cs a st=cap
 big:cap<=10000
 fuel:cst cs a st<f
 res:pD p cs f a st W=R
structure NdO (A H:Heap)(sb cb bo ob cap:Nat)(v:Value)(p:List UInt8)(cs R:List Nat)(a f:Nat)(o:Opt)(W:List Nat):Prop where
 s:SrH A sb cb v p cs
 ext:Ext A H
 out:OutH H bo cap W
 op:H.get ob=some (aM o)
 lbo:A.length<=bo
 lob:A.length<=ob
 ne:bo≠ob
 ok:o.ok p.length a
 cost:W.length+bD cs o=cap
 big:cap<=10000
 fuel:bD cs o<f+1
 ha:a+o.run<=p.length
 res:pD p cs f o.nx o.md (W++emit p W.length a o)=R
def jumps(A:Heap)(sb cb bo ob cap:Nat)(v:Value)(p:List UInt8)(cs R:List Nat):Nat->Nat->List Value->Heap->Prop:=fun m l S H=>
 (l=0/\∃a st f W,m=3*cst cs a st/\Nd A H sb cb bo ob cap v p cs R a st f W/\∃(z:Nat->Value),S=[ptr sb,z 1,iv bo cap W,aA a,aA st,ptr ob,z 6,z 7,z 8,z 9,z 10,z 11,z 12,z 13,z 14,z 15,z 16,z 17,z 18,z 19,z 20,z 21,z 22,z 23,z 24,z 25,z 26,z 27,z 28,z 29]) \/
 (l=1/\∃a f o W,m=3*bD cs o-1/\0<o.run/\NdO A H sb cb bo ob cap v p cs R a f o W/\∃(z:Nat->Value),S=[ptr sb,z 1,iv bo cap W,aA a,z 4,ptr ob,z 6,z 7,z 8,z 9,z 10,z 11,z 12,z 13,z 14,z 15,z 16,z 17,z 18,z 19,z 20,z 21,z 22,z 23,z 24,z 25,z 26,z 27,z 28,z 29]) \/
 (l=2/\∃a f o W,m=3*cst cs o.nx o.md+1/\Nd A H sb cb bo ob cap v p cs R o.nx o.md f W/\H.get ob=some (aM o)/\∃(z:Nat->Value),S=[ptr sb,z 1,iv bo cap W,aA a,z 4,ptr ob,z 6,z 7,z 8,z 9,z 10,z 11,z 12,z 13,z 14,z 15,z 16,z 17,z 18,z 19,z 20,z 21,z 22,z 23,z 24,z 25,z 26,z 27,z 28,z 29])
open XYe
theorem Cr{Q:bF}{a st f:Nat}{W:List Nat}(hsol:Sol p cs)(hlo:lo<=A.length)(hn:Nd A H sb cb bo ob cap v p cs R a st f W)(hS:∃(z:Nat->Value),S=[ptr sb,z 1,iv bo cap W,aA a,aA st,ptr ob,z 6,z 7,z 8,z 9,z 10,z 11,z 12,z 13,z 14,z 15,z 16,z 17,z 18,z 19,z 20,z 21,z 22,z 23,z 24,z 25,z 26,z 27,z 28,z 29])
  (hret:∀S' H',Ext A H'->OutH H' bo cap R->S'[1]?=some (iv bo cap R)->Q .ret S' H')
  (h1:∀f o H' S',NdO A H' sb cb bo ob cap v p cs R a f o W->bD cs o=cst cs a st->0<o.run->(∃(z:Nat->Value),S'=[ptr sb,z 1,iv bo cap W,aA a,z 4,ptr ob,z 6,z 7,z 8,z 9,z 10,z 11,z 12,z 13,z 14,z 15,z 16,z 17,z 18,z 19,z 20,z 21,z 22,z 23,z 24,z 25,z 26,z 27,z 28,z 29])->Q (.exit 1000001) S' H')
  (h2:∀f o W H' S',Nd A H' sb cb bo ob cap v p cs R o.nx o.md f W->cst cs o.nx o.md<cst cs a st->H'.get ob=some (aM o)->(∃(z:Nat->Value),S'=[ptr sb,z 1,iv bo cap W,aA a,z 4,ptr ob,z 6,z 7,z 8,z 9,z 10,z 11,z 12,z 13,z 14,z 15,z 16,z 17,z 18,z 19,z 20,z 21,z 22,z 23,z 24,z 25,z 26,z 27,z 28,z 29])->Q (.exit 1000002) S' H'):wpS cp lo wA0 Q S H:=by
 obtain⟨z,rfl⟩:=hS;show wpS cp lo (match mF with | .seq _ (.scope _ (.alt _ a _))=>a|_=>.skip) _ _ _;unfold mF;simp only[kB,aC];have hsH:=hn.s.ext hn.ext;have hgs:=hsH.g;obtain⟨ad,c,ev⟩:=hsH.pl.len;rw[ev]at hgs;have hi:=hsH.hi;have hlA:=hn.ext.1;by_cases hfin:st=0/\a=p.length
 ·have hR:W=R:=by
   have h1:=hn.res;have h2:=hn.fuel
   match f,h2 with
   | f+1,_=>rw[pD,if_pos hfin]at h1;exact h1
  subst hR;obtain⟨hf1,hf2⟩:=hfin;have hd1:decide ((st:Int)=0)=true:=decide_eq_true byO;have hd2:decide ((a:Int)=(p.length:Nat))=true:=decide_eq_true byO;replace hf1:st<=0:=byO;replace hf2:a<=p.length/\p.length<=a:=byO;refine aN ?_ ?_<;>intro h
  ·refine aE ?_
   exact hret _ _ hn.ext hn.out rfl
  ·cases h
 ·have hd1:(decide ((st:Int)=0)&&decide ((a:Int)=(p.length:Nat)))=false:=by
   simp only[Bool.and_eq_false_iff,ai₀];omega
  have hcst:cst cs a st<1073741824:=by have:=hn.cost;have:=hn.big;omega
  obtain⟨hmem,htot⟩:=xm hsol hn.ha hn.hs hcst hfin;have hok:=iA hn.ha _ hmem;have hcost:=hn.cost;have hbig:=hn.big;have hf:=hn.fuel;have hres:=hn.res;have hha:=hn.ha;have hhs:=hn.hs;obtain⟨f,rfl⟩:∃g,f=g+1:=⟨f-1,byO⟩;rw[pD,if_neg hfin]at hres;have hrun:a+(chs p cs a st).run<=p.length:=by
   rcases wu _ hmem with h|h
   ·omega
   ·have:=hok.nx.2;omega
  clear hcst hmem;refine aN ?_ ?_<;>intro h
  ·exfalso;first|(rw[hd1]at h;cases h)|cases h
  clear h hd1;replace hres:False\/_:=.inr hres;replace htot:False\/_:=.inr htot;replace hcost:False\/_:=.inr hcost;(try simp only[aC]);refine bR ?_;refine aB (OX (lo:=lo) hsH hha hhs byO) ?_;rintro r H1 ⟨hx1,rfl⟩;generalize chs p cs a st=o at hres htot hok hrun;obtain⟨oo,hob⟩:=hn.op;have hob1:=hx1.get hob;have hobl:=Heap.get_lt hob1;have hlob:=hn.lob;refine aE ?_;change wpS cp lo _ _ _ (List.set H1 ob (some (aM o)));have hk2:Keep ob H1 (List.set H1 ob (some (aM o))):=keepSet;have hg2:Heap.get (List.set H1 ob (some (aM o))) ob=some (aM o):=aF byO;have hn2:NdO A (List.set H1 ob (some (aM o))) sb cb bo ob cap v p cs R a f o W:=
   ⟨hn.s,hk2.ext (hn.ext.trans hx1) hn.lob,(hn.out.mono hx1).keep hk2 hn.ne,hg2,hn.lbo,hn.lob,hn.ne,hok,by rw[htot.resolve_left id];exact hcost.resolve_left id,hbig,by rw[htot.resolve_left id];exact hf,hrun,hres.resolve_left id⟩
  generalize List.set H1 ob (some (aM o))=H2 at hk2 hg2 hn2;have o1:=hok.sz;have o2:=hok.run;have o3:=hok.nx;have o4:=hok.md;have er:(aM o)[4]?=some (aA o.run):=rfl;have ez:(aM o)[3]?=some (aA o.sz):=rfl;clear hob hob1 hgs;by_cases hr0:0<o.run
  ·have hd:decide ((o.run:Int)>0)=true:=decide_eq_true byO
   have hd2:decide ((0:Int)<(o.run:Nat))=true:=decide_eq_true byO;refine aN ?_ ?_<;>intro h
   ·(try simp only[aC])
    exact h1 _ _ _ _ hn2 (htot.resolve_left id) hr0 (aJ rfl)
   ·simp at h
  ·have hd:decide ((o.run:Int)>0)=false:=decide_eq_false byO
   have hd2:decide ((0:Int)<(o.run:Nat))=false:=decide_eq_false byO;have hem:emit p W.length a o=Go.Proofs.YtmnlgdpdgjbfgaaGreat.hd o:=by unfold emit;rw[if_pos byO]
   have hts:bD cs o=o.sz+o.run+cst cs o.nx o.md:=rfl;have hout:=hn2.out;have hhl:=oZ o1.2;refine aN ?_ ?_<;>intro h
   ·simp at h
   clear h hd hd2;replace hem:False\/_:=.inr hem;replace hts:False\/_:=.inr hts;have hcap:W.length+o.sz+cst cs o.nx o.md<=cap:=by
    have:=hcost.resolve_left id;have:=htot.resolve_left id;have:=hts.resolve_left id;omega
   (try simp only[aC]);refine bR ?_;refine uq (L:=Go.Proofs.YtmnlgdpdgjbfgaaGreat.hd o) hout (by have:=hn.lbo;omega) hg2 (by rw[fS];omega) ?_ hhl byO ?_
   ·unfold Go.Proofs.YtmnlgdpdgjbfgaaGreat.hd aM
    have:o.sz=1\/o.sz=2\/o.sz=3:=byO;rcases this with e|e|e<;>rw[e]<;>rfl
   intro H3 ho3 hk3 hl3;refine aE ?_;refine h2 f o (W++Go.Proofs.YtmnlgdpdgjbfgaaGreat.hd o) H3 _ ⟨hn.s,hk3.ext hn2.ext hn.lbo,ho3,⟨o,hk3.get hg2 (fun e=>hn.ne e.symm)⟩,hn.lbo,hn.lob,hn.ne,o3.2,o4,?_,hbig,?_,?_⟩ ?_ (hk3.get hg2 (fun e=>hn.ne e.symm)) (aJ rfl)
   ·rw[as₀,hhl]
    have:=hcost.resolve_left id;have:=htot.resolve_left id;have:=hts.resolve_left id;omega
   ·have:=htot.resolve_left id
    have:=hts.resolve_left id;omega
   ·rw[<-hem.resolve_left id];exact hres.resolve_left id
   ·have:=htot.resolve_left id
    have:=hts.resolve_left id;omega
theorem LR{Q:bF}{a f:Nat}{o:Opt}{W:List Nat}(hn:Nd A H sb cb bo ob cap v p cs R o.nx o.md f W)(hg:H.get ob=some (aM o))(hS:∃(z:Nat->Value),S=[ptr sb,z 1,iv bo cap W,aA a,z 4,ptr ob,z 6,z 7,z 8,z 9,z 10,z 11,z 12,z 13,z 14,z 15,z 16,z 17,z 18,z 19,z 20,z 21,z 22,z 23,z 24,z 25,z 26,z 27,z 28,z 29])
  (h0:∀S',(∃z:Nat->Value,S'=[ptr sb,z 1,iv bo cap W,aA o.nx,aA o.md,ptr ob,z 6,z 7,z 8,z 9,z 10,z 11,z 12,z 13,z 14,z 15,z 16,z 17,z 18,z 19,z 20,z 21,z 22,z 23,z 24,z 25,z 26,z 27,z 28,z 29])->Q (.exit 1000000) S' H):wpS cp lo wA2 Q S H:=by
 obtain⟨z,rfl⟩:=hS;show wpS cp lo (match mF with | .seq _ (.scope _ (.alt _ _ (.alt _ _ (.alt _ a _))))=>a|_=>.skip) _ _ _;unfold mF;simp only[kB,aC];have e5:(aM o)[5]?=some (aA o.nx):=rfl;have e6:(aM o)[6]?=some (aA o.md):=rfl;refine aE ?_;exact h0 _ (aJ rfl)
theorem getD_map{l:List UInt8}{k:Nat}(h:k<l.length):(l.map UInt8.toNat).getD k 0=(l.getD k 0).toNat:=by
 simp[au₀,az₀,bb₀ h]
theorem NW{l:List UInt8}{a n:Nat}(h:SlU H v l)(hn:a+n<=l.length)(hn0:0<n):∃v',(∀G,aH (.sl 1 true true false) [v,.int .i64 (a:Nat),.int .i64 ((a:Int)+(n:Nat))] G=some v')/\SlU H v' ((l.drop a).take n):=by
 rcases h with ⟨rfl,rfl⟩|⟨b,o,sp,cap,xs,rfl,h2,h3,h4,h5,h6⟩
 ·have:n=0:=by have:([]:List UInt8).length=0:=rfl;omega
  omega
 ·have hd:(xs.drop (o+a)).take n=((l.drop a).take n).map BN:=by
   rw[List.map_take,List.map_drop,<-h3,<-List.drop_drop,List.drop_take,List.take_take,Nat.min_eq_left byO]
  have hl:((l.drop a).take n).length=n:=by simp;omega
  have hb:bounds l.length cap true true false [Value.int .i64 (a:Nat),.int .i64 ((a:Int)+(n:Nat))]=some (a,a+n,cap):=by
   simp[bounds,toB];rw[if_pos ⟨byO,byO⟩,show((a:Int)+(n:Nat)).toNat=a+n by omega];simp
  rcases h5 with rfl|rfl
  ·refine⟨.slice (some ⟨b,o+a,none⟩) n (cap-a),?_,.inr ⟨b,o+a,none,cap-a,xs,by rw[hl],h2,by rw[hl];exact hd,by rw[hl];omega,.inl rfl,by rw[hl];omega⟩⟩
   intro G;rw[yb,hb];simp;omega
  ·refine⟨.slice (some ⟨b,o+a,some 1⟩) n (cap-a),?_,.inr ⟨b,o+a,some 1,cap-a,xs,by rw[hl],h2,by rw[hl];exact hd,by rw[hl];omega,.inr rfl,by rw[hl];omega⟩⟩
   intro G;rw[ya,hb];simp
theorem LQ{Q:bF}{a f:Nat}{o:Opt}{W:List Nat}(hlo:lo<=A.length)(hn:NdO A H sb cb bo ob cap v p cs R a f o W)(hr:0<o.run)(hS:∃(z:Nat->Value),S=[ptr sb,z 1,iv bo cap W,aA a,z 4,ptr ob,z 6,z 7,z 8,z 9,z 10,z 11,z 12,z 13,z 14,z 15,z 16,z 17,z 18,z 19,z 20,z 21,z 22,z 23,z 24,z 25,z 26,z 27,z 28,z 29])
  (h0:∀S' H' W',Nd A H' sb cb bo ob cap v p cs R o.nx o.md f W'->(∃z:Nat->Value,S'=[ptr sb,z 1,iv bo cap W',aA o.nx,aA o.md,ptr ob,z 6,z 7,z 8,z 9,z 10,z 11,z 12,z 13,z 14,z 15,z 16,z 17,z 18,z 19,z 20,z 21,z 22,z 23,z 24,z 25,z 26,z 27,z 28,z 29])->Q (.exit 1000000) S' H'):wpS cp lo wA1 Q S H:=by
 obtain⟨z,rfl⟩:=hS;show wpS cp lo (match mF with | .seq _ (.scope _ (.alt _ _ (.alt _ a _)))=>a|_=>.skip) _ _ _;unfold mF;simp only[kB,aC];have hg:=hn.op;have hobl:=Heap.get_lt hg;have e0:(aM o)[0]?=some (aA o.h0):=rfl;have e3:(aM o)[3]?=some (aA o.sz):=rfl;have e4:(aM o)[4]?=some (aA o.run):=rfl;have o1:=hn.ok.sz;have o2:=hn.ok.run;have o3:=hn.ok.nx;have o4:=hn.ok.md;have oh:=hn.ok.h;have hcost:=hn.cost;have hbig:=hn.big;have hlbo:=hn.lbo;have hlob:=hn.lob;have hts:bD cs o=o.sz+o.run+cst cs o.nx o.md:=rfl;have hcap:W.length+o.sz+o.run+cst cs o.nx o.md=cap:=byO;replace hcap:W.length+o.sz+o.run+cst cs o.nx o.md<=cap/\cap<=W.length+o.sz+o.run+cst cs o.nx o.md:=byO;clear hts hcost;have hxA:=hn.ext;have hlA:=hxA.1;refine aE ?_;change wpS cp lo _ _ _ (H++[some [aA o.h0]]);have hxb:Ext H (H++[some [aA o.h0]]):=Ext.app _ _;have hgb:(H++[some [aA o.h0]]).get H.length=some [aA o.h0]:=aG;generalize H++[some [aA o.h0]]=H1 at hxb hgb;refine bR ?_;refine uq (L:=[o.h0]) (hn.out.mono hxb) byO hgb (by simp) rfl rfl byO ?_;intro H2 ho2 hk2 hl2;have hg2:=hk2.get (hxb.get hg) (fun e=>hn.ne e.symm);have hx2:=hk2.ext (hxA.trans hxb) hlbo;clear hgb;have hL1:(W++[o.h0]).length=W.length+1:=by simp
 generalize hW1:W++[o.h0]=W1 at ho2 hL1;replace hL1:W1.length<=W.length+1/\W.length+1<=W1.length:=byO;have hb3:bounds 3 3 true true false [Value.int .i64 1,aA o.sz]=some (1,o.sz,3):=by
  simp[bounds,toB];rw[if_pos o1.2,ao₀,if_pos byO];rfl
 obtain⟨D,hD⟩:∃D,False\/(Go.Proofs.YtmnlgdpdgjbfgaaGreat.hd o).drop 1=D:=⟨_,.inr rfl⟩;have hDl:D.length<=o.sz-1/\o.sz-1<=D.length:=by
  rw[<-hD.resolve_left id,List.length_drop,oZ o1.2];omega
 have hDat:False\/∀k,k<D.length->(aM o)[1+k]?=some (aA (D.getD k 0))/\D.getD k 0<=255:=by
  right;rw[<-hD.resolve_left id];unfold Go.Proofs.YtmnlgdpdgjbfgaaGreat.hd aM;intro k hk;have:o.sz=1\/o.sz=2\/o.sz=3:=byO;rcases this with e|e|e
  ·rw[e]at hk;simp at hk
  ·rw[e]at hk ⊢
   have:k=0:=by simp at hk;omega
   subst this;exact⟨rfl,oh.2.1⟩
  ·rw[e]at hk ⊢
   have:k=0\/k=1:=by simp at hk;omega
   rcases this with rfl|rfl
   ·exact⟨rfl,oh.2.1⟩
   ·exact⟨rfl,oh.2.2⟩
 refine aE ?_;refine eS (fun S' H'=>(Ext A H'/\OutH H' bo cap (W1++mk W1.length D)/\H'.get ob=some (aM o))/\∃z:Nat->Value,S'=[ptr sb,z 1,iv bo cap (W1++mk W1.length D),aA a,z 4,ptr ob,z 6,z 7,z 8,z 9,z 10,z 11,z 12,z 13,z 14,z 15,z 16,z 17,z 18,z 19,z 20,z 21,z 22,z 23,z 24,z 25,z 26,z 27,z 28,z 29]) ?_ ?_
 ·skip
  refine aa (fun k S H'=>(Ext A H'/\OutH H' bo cap (W1++mk W1.length (D.take k))/\H'.get ob=some (aM o))/\∃(z:Nat->Value),S=[ptr sb,z 1,iv bo cap (W1++mk W1.length (D.take k)),aA a,z 4,ptr ob,z 6,z 7,z 8,z 9,z 10,z 11,z 12,z 13,.slice (some ⟨ob,1,none⟩) (o.sz-1) (3-1),.int .i64 (o.sz-1:Nat),.int .i64 (k:Nat),z 17,z 18,z 19,z 20,z 21,z 22,z 23,z 24,z 25,z 26,z 27,z 28,z 29]) (o.sz-1) ⟨⟨hx2,by simpa[mk]using ho2,hg2⟩,aJ (by simp[mk];done)⟩ ?_ ?_ ?_
  ·rintro k S H' hk ⟨_,z,rfl⟩
   exact⟨decide ((k:Int)<((o.sz-1:Nat):Int)),by simp(disch:=try exact dO)only[evB,xtr,Nat.reduceAdd,Nat.reduceBEq,Int.reduceToNat, *],by simp⟩
  ·rintro k S H3 hk ⟨⟨hx3,ho3,hg3⟩,z,rfl⟩
   obtain⟨hat,hle⟩:=hDat.resolve_left id k byO;have hsn:=py W1.length (D.take k) (D.getD k 0);rw[<-mA (by omega:k<D.length),List.length_take_of_le (by omega:k<=D.length)]at hsn;have hml:=mn W1.length (D.take k);rw[List.length_take_of_le (by omega:k<=D.length)]at hml;rw[hsn,<-ba₀];generalize D.getD k 0=x at hat hle;have hWl:(W1++mk W1.length (D.take k)).length<=W1.length+k/\W1.length+k<=(W1++mk W1.length (D.take k)).length:=by simp[hml]
   have hle2:(W1++mk W1.length (D.take k)).length=W1.length+k:=byO;generalize W1++mk W1.length (D.take k)=W2 at ho3 hWl hle2;rw[<-hle2];clear hsn hml hle2;have hmm:msk W2.length<=256:=by unfold msk;omega
   have hl3:=hx3.1;refine aE ?_;refine bR ?_;refine aB (KA (lo:=lo) (k:=W2.length) byO) ?_;rintro r H4 ⟨rfl,rfl⟩;generalize msk W2.length=ms at hmm;have em:((x:Int)+(ms:Nat)).tmod 256=(((x+ms)%256:Nat):Int):=by rw[Int.tmod_eq_emod_of_nonneg byO];omega
   have hy:(x+ms)%256<256:=byO;generalize (x+ms)%256=y at em hy;refine aE ?_;change wpS cp lo _ _ _ (H3++[some [aA y]]);have hxd:Ext H3 (H3++[some [aA y]]):=Ext.app _ _;have hgd:(H3++[some [aA y]]).get H3.length=some [aA y]:=aG;have hld:(H3++[some [aA y]]).length<=H3.length+1/\H3.length+1<=(H3++[some [aA y]]).length:=by simp
   generalize H3++[some [aA y]]=H5 at hxd hgd hld;refine bR ?_;refine uq (L:=[y]) (ho3.mono hxd) byO hgd (by simp) rfl rfl byO ?_;intro H6 ho6 hk6 hl6;have hx6:=hk6.ext (hx3.trans hxd) hlbo;have hg6:=hk6.get (hxd.get hg3) (fun e=>hn.ne e.symm);clear hgd;refine aE ?_;exact⟨⟨hx6,ho6,hg6⟩,aJ ncM⟩
  ·rintro S H3 ⟨⟨hx3,ho3,hg3⟩,z,rfl⟩
   rw[List.take_of_length_le hDl.1]at *;(try simp only[aC]);exact⟨⟨hx3,ho3,hg3⟩,aJ rfl⟩
 ·rintro S1 H7 ⟨⟨hx7,ho7,hg7⟩,z1,rfl⟩
  have hW3l:(W1++mk W1.length D).length=W1.length+(o.sz-1):=by rw[as₀,mn];omega
  obtain⟨W3,hW3⟩:∃W3,False\/W1++mk W1.length D=W3:=⟨_,.inr rfl⟩;rw[hW3.resolve_left id]at ho7 hW3l ⊢;replace hW3l:W3.length<=W1.length+(o.sz-1)/\W1.length+(o.sz-1)<=W3.length:=byO;clear hDat hg2 ho2 hx2;have hs7:=hn.s.ext hx7;have hgs7:=hs7.g;have hr3:=hn.ha;obtain⟨pv,hpv,hsvA⟩:=NW hn.s.pl hr3 hr;obtain⟨av,cv,rfl⟩:=hsvA.len;have hpv7:=hpv H7;have hRl:((p.drop a).take o.run).length=o.run:=by simp;omega
  rw[hRl]at hpv7 hsvA;obtain⟨E,hE⟩:∃E,False\/pa p a o.run=E:=⟨_,.inr rfl⟩;have hEl:E.length<=o.run/\o.run<=E.length:=by rw[<-hE.resolve_left id];unfold pa;rw[ay₀,hRl];omega
  have hEat:False\/∀k,k<o.run->E.getD k 0=(((p.drop a).take o.run).getD k 0).toNat:=by
   right;intro k hk;rw[<-hE.resolve_left id];exact getD_map byO
  clear hpv;have hi:=hn.s.hi;refine aE ?_;have e5:(aM o)[5]?=some (aA o.nx):=rfl;have e6:(aM o)[6]?=some (aA o.md):=rfl;refine eS (fun S' H'=>(Ext A H'/\OutH H' bo cap (W3++mk W3.length E)/\H'.get ob=some (aM o))/\∃z:Nat->Value,S'=[ptr sb,z 1,iv bo cap (W3++mk W3.length E),aA a,z 4,ptr ob,z 6,z 7,z 8,z 9,z 10,z 11,z 12,z 13,z 14,z 15,z 16,z 17,z 18,z 19,z 20,z 21,z 22,z 23,z 24,z 25,z 26,z 27,z 28,z 29]) ?_ ?_
  ·refine aa (fun k S H'=>(Ext A H'/\OutH H' bo cap (W3++mk W3.length (E.take k))/\H'.get ob=some (aM o))/\∃(z:Nat->Value),S=[ptr sb,z 1,iv bo cap (W3++mk W3.length (E.take k)),aA a,z 4,ptr ob,z 6,z 7,z 8,z 9,z 10,z 11,z 12,z 13,z 14,z 15,z 16,z 17,z 18,z 19,z 20,z 21,.slice av o.run cv,.int .i64 (o.run:Nat),.int .i64 (k:Nat),z 25,z 26,z 27,z 28,z 29]) o.run ⟨⟨hx7,by simpa[mk]using ho7,hg7⟩,aJ (by simp[mk];done)⟩ ?_ ?_ ?_
   ·rintro k S H' hk ⟨_,z,rfl⟩
    exact⟨decide ((k:Int)<(o.run:Int)),by simp(disch:=try exact dO)only[evB,xtr,Nat.reduceAdd,Nat.reduceBEq,Int.reduceToNat, *],by simp⟩
   ·rintro k S H3 hk ⟨⟨hx3,ho3,hg3⟩,z,rfl⟩
    have hat0:=hEat.resolve_left id k hk;have hsn:=py W3.length (E.take k) (E.getD k 0);rw[<-mA (by omega:k<E.length),List.length_take_of_le (by omega:k<=E.length)]at hsn;have hml:=mn W3.length (E.take k);rw[List.length_take_of_le (by omega:k<=E.length)]at hml;obtain⟨bb,bo2,xs,hia,hgx,hxx⟩:=fX (hsvA.mono hx3) (k:=k) byO;rw[hsn,<-ba₀];have hxb:=(((p.drop a).take o.run).getD k 0).toNat_lt;replace hxx:xs[bo2]?=some (.int .u8 ((((p.drop a).take o.run).getD k 0).toNat:Nat)):=hxx;rw[<-hat0]at hxx hxb;generalize E.getD k 0=x at hxx hxb;have hWl:(W3++mk W3.length (E.take k)).length<=W3.length+k/\W3.length+k<=(W3++mk W3.length (E.take k)).length:=by simp[hml]
    have hle2:(W3++mk W3.length (E.take k)).length=W3.length+k:=byO;generalize W3++mk W3.length (E.take k)=W2 at ho3 hWl hle2;rw[<-hle2];clear hsn hml hle2 hat0 hgs7 hpv7;have hmm:msk W2.length<=256:=by unfold msk;omega
    have hl3:=hx3.1;refine aE ?_;refine bR ?_;refine aB (KA (lo:=lo) (k:=W2.length) byO) ?_;rintro r H4 ⟨rfl,rfl⟩;generalize msk W2.length=ms at hmm;have em:((x:Int)+(ms:Nat)).tmod 256=(((x+ms)%256:Nat):Int):=by rw[Int.tmod_eq_emod_of_nonneg byO];omega
    have hy:(x+ms)%256<256:=byO;generalize (x+ms)%256=y at em hy;refine aE ?_;change wpS cp lo _ _ _ (H3++[some [aA y]]);have hxd:Ext H3 (H3++[some [aA y]]):=Ext.app _ _;have hgd:(H3++[some [aA y]]).get H3.length=some [aA y]:=aG;have hld:(H3++[some [aA y]]).length<=H3.length+1/\H3.length+1<=(H3++[some [aA y]]).length:=by simp
    generalize H3++[some [aA y]]=H5 at hxd hgd hld;refine bR ?_;refine uq (L:=[y]) (ho3.mono hxd) byO hgd (by simp) rfl rfl byO ?_;intro H6 ho6 hk6 hl6;have hx6:=hk6.ext (hx3.trans hxd) hlbo;have hg6:=hk6.get (hxd.get hg3) (fun e=>hn.ne e.symm);clear hgd;refine aE ?_;exact⟨⟨hx6,ho6,hg6⟩,aJ ncM⟩
   ·rintro S H3 ⟨⟨hx3,ho3,hg3⟩,z,rfl⟩
    rw[List.take_of_length_le hEl.1]at *;(try simp only[aC]);exact⟨⟨hx3,ho3,hg3⟩,aJ rfl⟩
  ·rintro S1 H8 ⟨⟨hx8,ho8,hg8⟩,z1,rfl⟩
   have hem:W3++mk W3.length E=W++emit p W.length a o:=by
    rw[<-hW3.resolve_left id,<-hW1];unfold emit;rw[if_neg byO,hD.resolve_left id,hE.resolve_left id,EK];simp only[ba₀,am₀,List.nil_append,as₀,ak₀,an₀,mn,Nat.zero_add,show W.length+(D.length+1)=W.length+1+D.length by omega]
   have hlen:(W3++mk W3.length E).length=W3.length+o.run:=by rw[as₀,mn];omega
   have hres:=hn.res;rw[<-hem]at hres;have hf:=hn.fuel;have hts:bD cs o=o.sz+o.run+cst cs o.nx o.md:=rfl;clear hem;generalize W3++mk W3.length E=W4 at ho8 hlen hres;replace hlen:W4.length<=W3.length+o.run/\W3.length+o.run<=W4.length:=byO;replace hres:False\/_:=.inr hres;replace hts:False\/_:=.inr hts;refine aE ?_;refine h0 _ _ W4 ⟨hn.s,hx8,ho8,⟨o,hg8⟩,hlbo,hlob,hn.ne,o3.2,o4,byO,hbig,?_,hres.resolve_left id⟩ (aJ rfl);have:=hts.resolve_left id;omega
theorem Gg{J:Nat->Nat->List Value->Heap->Prop}{Q:bF}:Dd J Q .ret S H=Q .ret S H:=rfl
theorem Gf{J:Nat->Nat->List Value->Heap->Prop}{m:Nat}{Q:bF}:Db J m Q .ret S H=Q .ret S H:=rfl
theorem zq{J:Nat->Nat->List Value->Heap->Prop}{Q:bF}{l:Nat}(h:∃m,J m l S H):Dd J Q (.exit (1000000+l)) S H:=by
 show(if aT<=1000000+l then ∃m,J m (1000000+l-aT) S H else Q _ S H);unfold aT;rw[if_pos byO,show 1000000+l-1000000=l by omega];exact h
theorem px{J:Nat->Nat->List Value->Heap->Prop}{m:Nat}{Q:bF}{l:Nat}(h:∃m',m'<m/\J m' l S H):Db J m Q (.exit (1000000+l)) S H:=by
 show(if aT<=1000000+l then ∃m',m'<m/\J m' (1000000+l-aT) S H else Q _ S H);unfold aT;rw[if_pos byO,show 1000000+l-1000000=l by omega];exact h
theorem NdO.pos{A H:Heap}{a f:Nat}{o:Opt}{W:List Nat}(h:NdO A H sb cb bo ob cap v p cs R a f o W):cst cs o.nx o.md+1<=bD cs o:=by
 have:=h.ok.sz;have e:bD cs o=o.sz+o.run+cst cs o.nx o.md:=rfl;omega
theorem N4(hs:SrH H sb cb v p cs)(hsol:Sol p cs)(hlo:lo<=H.length):Ev cp lo 76 [ptr sb] H (fun r H'=>Ext H H'/\SlN H' r (kc p cs)):=by
 refine stG rfl rfl ?_;rw[Fk];rw[jt];unfold wS0 mF;simp only[kB];have hgs:=hs.g;have hgc:=hs.c;have hlen:=hs.len;have hi:=hs.hi;have hcost:=km hsol p.length 0 byO;have hat:=mW (cs:=cs) (k:=0*19+0) byO;have hul:(uN cs).length<=cs.length/\cs.length<=(uN cs).length:=by simp
 replace hlen:cs.length<=(p.length+1)*19/\(p.length+1)*19<=cs.length:=byO;replace hat:(uN cs)[0]?=some (aA (cst cs 0 0)):=hat;generalize hcap:cst cs 0 0=cap at hcost hat;replace hcap:False\/_:=.inr hcap;generalize uN cs=U at hgc hat hul;have hret:∀{S' H'} {bo:Nat} {R':List Nat},R'=kc p cs->Ext H H'->OutH H' bo cap R'->S'[1]?=some (iv bo cap R')->iz ⟨0,0,[.var 1],.skip,.plain⟩ (fun r H'=>Ext H H'/\SlN H' r (kc p cs)) .ret S' H':=by
  intro S' H' bo R' hR hx ho hS;subst hR;refine j1 (vs:=[iv bo cap (kc p cs)]) ?_ ⟨hx,ho.sl⟩;simp(disch:=try exact dO)only[evB,xtr,Nat.reduceAdd,Nat.reduceBEq,Int.reduceToNat, *]
 generalize iz ⟨0,0,[.var 1],.skip,.plain⟩ (fun r H'=>Ext H H'/\SlN H' r (kc p cs))=QQ at hret;replace hret:False\/_:=.inr @hret;refine aE ?_;refine C5 (jumps H sb cb H.length (H.length+1) cap v p cs (kc p cs)) ?_ ?_
 ·rw[jt]
  unfold wB1 wB mF;simp only[kB];refine aE ?_;simp only[K.z];have hxb:Ext H (H++[some (ah (List.replicate cap 0)),some [Value.int .i64 0,Value.int .i64 0,Value.int .i64 0,Value.int .i64 0,Value.int .i64 0,Value.int .i64 0,Value.int .i64 0]]):=Ext.app _ _;have hg0:Heap.get (H++[some (ah (List.replicate cap 0)),some [Value.int .i64 0,Value.int .i64 0,Value.int .i64 0,Value.int .i64 0,Value.int .i64 0,Value.int .i64 0,Value.int .i64 0]]) H.length=some (ah (List.replicate cap 0)):=aG;have hg1:Heap.get (H++[some (ah (List.replicate cap 0)),some [Value.int .i64 0,Value.int .i64 0,Value.int .i64 0,Value.int .i64 0,Value.int .i64 0,Value.int .i64 0,Value.int .i64 0]]) (H.length+1)=some (aM bm):=by rw[bL];rfl
  have hnd:Nd H (H++[some (ah (List.replicate cap 0)),some [Value.int .i64 0,Value.int .i64 0,Value.int .i64 0,Value.int .i64 0,Value.int .i64 0,Value.int .i64 0,Value.int .i64 0]]) sb cb H.length (H.length+1) cap v p cs (kc p cs) 0 0 (cst cs 0 0+1) []:=
   ⟨hs,hxb,⟨_,hg0,by simp[ah],by simp,by simp⟩,⟨bm,hg1⟩,Nat.le_refl _,byO,byO,byO,byO,by rw[hcap.resolve_left id];simp,byO,byO,rfl⟩
  generalize H++[some (ah (List.replicate cap 0)),some [Value.int .i64 0,Value.int .i64 0,Value.int .i64 0,Value.int .i64 0,Value.int .i64 0,Value.int .i64 0,Value.int .i64 0]]=H1 at hnd;refine Cr hsol hlo hnd (aJ rfl) ?_ ?_ ?_
  ·intro S' H' hx ho h1
   rw[Gg];exact hret.resolve_left id rfl hx ho h1
  ·intro f o H' S' hn ht hr hS
   refine zq (l:=1) ⟨_,.inr (.inl ⟨rfl,_,_,_,_,rfl,hr,hn,hS⟩)⟩
  ·intro f o W H' S' hn hlt hg hS
   exact zq (l:=2) ⟨_,.inr (.inr ⟨rfl,_,f,o,W,rfl,hn,hg,hS⟩)⟩
 ·rintro m l S H1 (⟨rfl,a,st,f,W,rfl,hn,hS⟩|⟨rfl,a,f,o,W,rfl,hr,hn,hS⟩|⟨rfl,a,f,o,W,rfl,hn,hg,hS⟩)
  ·refine xh (Cr hsol hlo hn hS ?_ ?_ ?_)
   ·intro S' H' hx ho h1
    rw[Gf];exact hret.resolve_left id rfl hx ho h1
   ·intro f o H' S' hn ht hr hS
    have:=hn.pos;exact px (l:=1) ⟨_,byO,.inr (.inl ⟨rfl,_,_,_,_,rfl,hr,hn,hS⟩)⟩
   ·intro f o W H' S' hn hlt hg hS
    exact px (l:=2) ⟨_,byO,.inr (.inr ⟨rfl,_,f,o,W,rfl,hn,hg,hS⟩)⟩
  ·refine uE (by decide) (xh (LQ hlo hn hr hS ?_))
   intro S' H' W' hn' hS';have:=hn.pos;obtain⟨z,rfl⟩:=hS';exact px (l:=0) ⟨_,byO,.inl ⟨rfl,_,_,f,W',rfl,hn',aJ rfl⟩⟩
  ·refine uE (by decide) (uE (by decide) (xh (LR hn hg hS ?_)))
   intro S' hS';obtain⟨z,rfl⟩:=hS';exact px (l:=0) ⟨_,byO,.inl ⟨rfl,_,_,f,W,rfl,hn,aJ rfl⟩⟩
end
section
variable {lo:Nat}{H:Heap}{v:Value}{p:List UInt8}
open XYe
theorem RJ(hp:SlU H v p)(hl:p.length<=4096)(hlo:lo<=H.length):Ev cp lo 38 [v] H (fun r H'=>Ext H H'/\∃u cs,New p 0 cs/\r=.tuple #[u,.int .i64 0]/\SlN H' u (kc p cs)):=by
 obtain⟨ad,c,ev⟩:=hp.len;subst ev;refine stG rfl rfl ?_;unfold Nq;simp only[kB,aC];refine aE ?_;refine aN ?_ ?_<;>intro h
 ·exfalso;simp at h;omega
 clear h;(try simp only[aC]);refine bR ?_;refine aB (Ru hp hl hlo) ?_;rintro r H1 ⟨hx1,sb,cb,cs,rfl,hn,hs⟩;have hl1:=hx1.1;replace hn:False\/_:=.inr hn;(try simp only[aC]);refine bR ?_;refine aB (N4 hs.s (AR (hn.resolve_left id)) byO) ?_;rintro r H2 ⟨hx2,hsl⟩;refine aE ?_;refine dB ?_;exact⟨hx1.trans hx2,r,cs,hn.resolve_left id,rfl,hsl⟩
end
theorem BM{l:List Nat}(h:Sl aA H v l):SlI H v (l.map (fun i:Nat=>(i:Int))):=by
 rcases h with ⟨rfl,rfl⟩|⟨b,o,sp,cap,xs,h1,h2,h3,h4,h5⟩
 ·exact .inl ⟨rfl,rfl⟩
 ·refine .inr ⟨b,o,sp,cap,xs,by rw[h1];simp,h2,?_,by simpa using h4,by simpa using h5⟩
  rw[ay₀,h3,List.map_map];rfl
theorem se{d:Nat}{c:List Value}(h:H.get d=some c):H.set d (some c)=H:=by
 have hl:=Heap.get_lt h;apply List.ext_getElem (by simp);intro i h1 h2;rw[List.getElem_set];split
 ·rename_i e
  subst e;rw[eE,bb₀ hl]at h;revert h;cases H[d]with
  | none=>intro h;simp at h
  | some x=>intro h;simp at h;rw[h]
 ·rfl
theorem Fl{cp:FuncId->Option CF}{lo:Nat}{p D:List Int}{d n c:Nat}{R:Value->Heap->Prop}(hlo:lo<=d)(hd:H.get d=some (ah D))(hn:D.length=n)(hp:SlI H v p)(k:∀w,R w (H.set d (some (ah (p.take n++D.drop (min p.length n)))))):wpH cp lo (.cpy 1) [.slice (some ⟨d,0,none⟩) n c,v] H R:=by
 simp only[wpH];rcases hp with ⟨rfl,rfl⟩|⟨b,o,sp,cap,xs,rfl,hb,hx,hlen,-⟩
 ·simp only[cL,hsem,if_true]
  have:=k (.int .i64 0);simp only[an₀,Nat.zero_min,List.take_nil,List.drop_zero,List.nil_append]at this;rwa [se hd]at this
 ·rw[yW hlo,hb,hd]
  have hx2:(xs.drop o).take (min p.length n*1)=ah (p.take n):=by
   have:((xs.drop o).take p.length).take n=(p.map (Value.int .i64)).take n:=by rw[hx]
   rw[List.take_take,<-List.map_take]at this;rw[Nat.mul_one,Nat.min_comm];exact this
  have h1:o+min p.length n*1<=xs.length:=byO;have h2:0+min p.length n*1<=(ah D).length:=by rw[jc];omega
  simp only[h1,h2,hx2,tO,and_self,if_true];have hpc:putCells (ah D) 0 (ah (p.take n))=ah (p.take n++D.drop (min p.length n)):=by
   rw[rX,qy,tN,jc,List.length_take,Nat.min_comm]
  rw[hpc];exact k _
theorem NU{l:List Int}{k:Nat}(h:SlI H v l)(hk:k<l.length):∃b o xs,aH (.iAddr 1) [v,.int .i64 (k:Nat)] H=some (.pointer (some ⟨b,o,none⟩))/\H.get b=some xs/\xs[o]?=some (.int .i64 (l.getD k 0)):=by
 obtain⟨b,o,sp,cap,xs,rfl,h2,h3,h4⟩:=h.els 0 byO;refine⟨b,o+k,xs,?_,h2,h3 k hk⟩;rw[lB byO byO];simp
def uP(l:List Int):Bool:=l.all fun x=>decide (0<=x)&&decide (x<=255)
def Ec(k i:Nat):Nat:=if i=k then 129 else if 130+149*(i+1)%253>254 then 130+149*(i+1)%253-254 else 130+149*(i+1)%253
abbrev yn(k i:Nat):Int:=(Ec k i:Nat)
def gK(l:List Int)(m:Nat):List Int:=l++(List.range m).map fun j=>yn l.length (l.length+j)
theorem lD(l:List Int)(m:Nat):(gK l m).length=l.length+m:=by simp[gK]
theorem Bm(l:List Int)(m:Nat):gK l (m+1)=gK l m++[yn l.length (l.length+m)]:=by
 unfold gK;rw[List.range_succ,List.map_append,ba₀];rfl
def Bn(l:List Int)(n:Int):Int ⊕ List Int:=if uP l=false then .inl 3 else if n>8192 then .inl 4 else if n<l.length then .inl 16 else .inr (gK l (n.toNat-l.length))
def On(H':Heap)(r:Value):Int ⊕ List Int->Prop
 | .inl e=>r=.tuple #[.slice none 0 0,.int .i64 e]
 | .inr w=>∃u,r=.tuple #[u,.int .i64 0]/\SlI H' u w
theorem DP{l:List Int}{k:Nat}(hk:k<l.length)(h:uP (l.take k)=true):uP (l.take (k+1))=(decide (0<=l.getD k 0)&&decide (l.getD k 0<=255)):=by
 unfold uP at *;rw[List.take_succ_eq_append_getElem hk,List.all_append,h];simp[au₀,hk]
theorem LY{l:List Int}{k:Nat}(hk:k<l.length)(h:(decide (0<=l.getD k 0)&&decide (l.getD k 0<=255))=false):uP l=false:=by
 rw[Bool.eq_false_iff];intro h2;have:=List.all_eq_true.1 h2 (l.getD k 0) (by rw[au₀,bb₀ hk];exact List.getElem_mem hk);rw[this]at h;cases h
section
variable {lo:Nat}{H:Heap}{v:Value}{l:List Int}
open XYe
theorem Rx{n:Int}(hv:SlI H v l)(hl:l.length<=100000)(hn:IntKind.i64.min<=n/\n<=IntKind.i64.max)(hlo:lo<=H.length):Ev cp lo 40 [v,.int .i64 n] H (fun r H'=>Ext H H'/\On H' r (Bn l n)):=by
 obtain⟨ad,c,ev⟩:=hv.len;have hv0:=hv;rw[ev]at hv ⊢;refine stG rfl rfl ?_;unfold Ns;simp only[kB,aC];refine aE ?_;refine aa (fun k S H'=>(H=H'/\uP (l.take k)=true)/\∃(z:Nat->Value),S=[.slice ad l.length c,.int .i64 n,z 2,z 3,z 4,z 5,z 6,.slice ad l.length c,.int .i64 (l.length:Nat),.int .i64 (k:Nat),z 10]) l.length ⟨⟨rfl,rfl⟩,aJ rfl⟩ ?_ ?_ ?_
 ·rintro k S H' hk ⟨_,z,rfl⟩
  exact⟨decide ((k:Int)<(l.length:Nat)),by simp(disch:=try exact dO)only[evB,xtr,Nat.reduceAdd,Nat.reduceBEq,Int.reduceToNat, *],by simp⟩
 ·rintro k S H' hk ⟨⟨rfl,hcw⟩,z,rfl⟩
  have hcw2:=DP hk hcw;have hno:=LY hk;obtain⟨b1,o1,x1,i1,g1,e1⟩:=NU hv hk;generalize l.getD k 0=x at e1 hcw2 hno;replace hno:False\/_:=.inr hno;clear hcw;refine aE ?_;by_cases hx:0<=x/\x<=255
  ·obtain⟨hx1,hx2⟩:=hx
   rw[decide_eq_true hx1,decide_eq_true hx2]at hcw2;have hd1:decide (x<0)=false:=decide_eq_false byO;have hd2:decide (x>255)=false:=decide_eq_false byO;have hd3:decide (255<x)=false:=decide_eq_false byO;refine aN ?_ ?_<;>intro h
   ·exfalso;first|(simp at h;done)|cases h
   clear h hd1 hd2 hd3;refine aE ?_;exact⟨⟨trivial,hcw2⟩,aJ ncM⟩
  ·have hc:uP l=false:=hno.resolve_left id (by
    simp only[Bool.and_eq_false_iff,ai₀];omega)
   have hd:(decide (x<0) || decide (x>255))=true:=by simp;omega
   refine aN ?_ ?_<;>intro h
   ·refine aE ?_
    refine dB ?_;exact⟨Ext.refl _,by unfold Bn;rw[hc];rfl⟩
   ·exfalso;first|(simp at h;omega)|cases h
 ·rintro S H' ⟨⟨rfl,hcw⟩,z,rfl⟩
  rw[List.take_length]at hcw;unfold Bn;rw[hcw];simp only[Bool.true_eq_false,if_false];clear hcw;(try simp only[aC]);by_cases h8:n>8192
  ·have hd:decide (n>8192)=true:=decide_eq_true h8
   rw[if_pos h8];refine aN ?_ ?_<;>intro h
   ·refine aE ?_
    refine dB ?_;exact⟨Ext.refl _,rfl⟩
   ·simp at h
  have hd:decide (n>8192)=false:=decide_eq_false h8;rw[if_neg h8];refine aN ?_ ?_<;>intro h
  ·simp at h
  clear h hd;(try simp only[aC]);by_cases hnl:n<l.length
  ·have hd:decide (n<(l.length:Nat))=true:=decide_eq_true hnl
   rw[if_pos hnl];refine aN ?_ ?_<;>intro h
   ·refine aE ?_
    refine dB ?_;exact⟨Ext.refl _,rfl⟩
   ·simp at h
  have hd:decide (n<(l.length:Nat))=false:=decide_eq_false hnl;rw[if_neg hnl];refine aN ?_ ?_<;>intro h
  ·simp at h
  clear h hd;obtain⟨m,rfl⟩:∃m:Nat,n=((l.length+m:Nat):Int):=⟨n.toNat-l.length,byO⟩;rw[show(((l.length+m:Nat):Int)).toNat-l.length=m by omega];replace hnl:l.length+m<=8192:=byO;replace h8:m<=8192:=byO;refine aE ?_;have hxb:Ext H (H++[some (ah (List.replicate (l.length+m) 0))]):=Ext.app _ _;have hg0:(H++[some (ah (List.replicate (l.length+m) 0))]).get H.length=some (ah (List.replicate (l.length+m) 0)):=aG;generalize H++[some (ah (List.replicate (l.length+m) 0))]=H0 at hxb hg0;have hbl:=Heap.get_lt hg0;refine bR ?_;rw[<-ev];refine Fl hlo hg0 (by simp) (hv0.mono hxb) ?_;intro w;rw[ev];have hcp:l.take (l.length+m)++(List.replicate (l.length+m) 0).drop (min l.length (l.length+m))=gK l 0++List.replicate (m-0) 0:=by
   rw[List.take_of_length_le byO,Nat.min_eq_left byO,List.drop_replicate,Nat.sub_zero,show l.length+m-l.length=m by omega];simp[gK]
  rw[hcp];have hx1:Ext H (List.set H0 H.length (some (ah (gK l 0++List.replicate (m-0) 0)))):=keepSet.ext hxb (Nat.le_refl _);have hg1:Heap.get (List.set H0 H.length (some (ah (gK l 0++List.replicate (m-0) 0)))) H.length=some (ah (gK l 0++List.replicate (m-0) 0)):=aF hbl;generalize List.set H0 H.length (some (ah (gK l 0++List.replicate (m-0) 0)))=H1 at hx1 hg1;clear hg0 hcp hxb hbl;refine aE ?_;refine aa (fun j S H'=>(Ext H H'/\H'.get H.length=some (ah (gK l j++List.replicate (m-j) 0)))/\∃(z:Nat->Value),S=[.slice ad l.length c,.int .i64 ((l.length+m:Nat):Int),z 2,z 3,z 4,.slice (some ⟨H.length,0,none⟩) (l.length+m) (l.length+m),.int .i64 ((l.length+j:Nat):Int),z 7,z 8,z 9,z 10]) m ⟨⟨hx1,hg1⟩,aJ ncM⟩ ?_ ?_ ?_
  ·rintro j S H' hj ⟨_,z,rfl⟩
   exact⟨decide (((l.length+j:Nat):Int)<((l.length+m:Nat):Int)),by simp(disch:=try exact dO)only[evB,xtr,Nat.reduceAdd,Nat.reduceBEq,Int.reduceToNat, *],by simp⟩
  ·rintro j S H2 hj ⟨⟨hx2,hg2⟩,z,rfl⟩
   clear hg1 hx1;have hbl:=Heap.get_lt hg2;have hset:∀y,(ah (gK l j++List.replicate (m-j) 0)).set (l.length+j) (.int .i64 y)=ah ((gK l j++[y])++List.replicate (m-(j+1)) 0):=by
    intro y;rw[show m-j=(m-(j+1))+1 by omega,List.replicate_succ];unfold ah;rw[List.map_append,List.set_append_right _ _ (by simp[lD]),ay₀,lD,Nat.sub_self];simp
   have hYl:(ah (gK l j++List.replicate (m-j) 0)).length<=l.length+m/\l.length+m<=(ah (gK l j++List.replicate (m-j) 0)).length:=by
    rw[jc,as₀,lD,List.length_replicate];omega
   rw[Bm];replace hset:False\/_:=.inr hset;obtain⟨i,hi⟩:∃i,False\/l.length+j=i:=⟨_,.inr rfl⟩;rw[hi.resolve_left id]at hset ⊢;have hil:i<l.length+m:=by have:=hi.resolve_left id;omega
   generalize ah (gK l j++List.replicate (m-j) 0)=Y at hg2 hYl hset;have hY1:∀y,(Y.set i (.int .i64 y))[i]?=some (.int .i64 y):=fun y=>by rw[List.getElem?_set_self byO]
   have hfin:False\/∀(y:Int) (H':Heap),y=yn l.length i->Ext H H'->H'.get H.length=some (Y.set i (.int .i64 y))->(Ext H H'/\H'.get H.length=some (ah ((gK l j++[yn l.length i])++List.replicate (m-(j+1)) 0))):=by
    right;intro y H' hy h1 h2;subst hy;exact⟨h1,by rw[h2,hset.resolve_left id]⟩
   have hpv:False\/Ec l.length i=if i=l.length then 129 else if 130+149*(i+1)%253>254 then 130+149*(i+1)%253-254 else 130+149*(i+1)%253:=.inr rfl
   have hi2:((i+1:Nat):Int)=((l.length+(j+1):Nat):Int):=by have:=hi.resolve_left id;omega
   rw[<-hi2];clear hi2;have hll:Ext H (List.set H2 H.length (some (Y.set i (.int .i64 129)))):=keepSet.ext hx2 (Nat.le_refl _);have em:(149*((i:Int)+1)).tmod 253=((149*(i+1)%253:Nat):Int):=by rw[Int.tmod_eq_emod_of_nonneg byO];omega
   have hq:149*(i+1)%253<=252:=byO;generalize 149*(i+1)%253=q at em hq hpv;refine aE ?_;have hgY:=hY1 129;have hYl1:(Y.set i (.int .i64 129)).length<=l.length+m/\l.length+m<=(Y.set i (.int .i64 129)).length:=by simp;omega
   have hg3:Heap.get (List.set H2 H.length (some (Y.set i (.int .i64 129)))) H.length=some (Y.set i (.int .i64 129)):=aF hbl;have hbl3:=Heap.get_lt hg3;by_cases hj0:i=l.length
   ·have hd:decide ((i:Int)>(l.length:Nat))=false:=decide_eq_false byO
    have hp:=hpv.resolve_left id;rw[if_pos hj0]at hp;have hfi:=hfin.resolve_left id 129 _ (by unfold yn;rw[hp];rfl) hll hg3;generalize List.set H2 H.length (some (Y.set i (.int .i64 129)))=H3 at hfi hg3 hbl3;generalize Y.set i (.int .i64 129)=Y1 at hgY hYl1 hg3;replace hfi:False\/_:=.inr hfi;replace hj0:i<=l.length/\l.length<=i:=byO;clear hp hY1;refine aN ?_ ?_<;>intro h
    ·simp at h
    clear h hd;refine aE ?_;refine aN ?_ ?_<;>intro h
    ·simp at h
    clear h;refine aE ?_;exact⟨hfi.resolve_left id,aJ ncM⟩
   ·have hd:decide ((i:Int)>(l.length:Nat))=true:=decide_eq_true (by have:=hi.resolve_left id;omega)
    have hp:=hpv.resolve_left id;rw[if_neg hj0]at hp;have hss:∀y,(Y.set i (.int .i64 129)).set i (.int .i64 y)=Y.set i (.int .i64 y):=fun y=>List.set_set ..;generalize hY1e:Y.set i (.int .i64 129)=Y1 at hgY hYl1 hg3 hss;have hx3:Ext H (List.set H2 H.length (some Y1)):=by rw[<-hY1e];exact hll
    generalize List.set H2 H.length (some Y1)=H3 at hg3 hbl3 hx3;clear hY1e hll hg2 hbl hbl3;have hbl3:=Heap.get_lt hg3;replace hp:False\/_:=.inr hp;replace hss:False\/_:=.inr hss;refine aN ?_ ?_<;>intro h
    ·clear h hd
     refine aE ?_;rw[show(129:Int)+((q:Int)+1)=((130+q:Nat):Int) by omega];generalize hw:130+q=w at hp;replace hw:w<=382/\q<=w:=byO;clear em hpv hY1;have hgY2:(Y1.set i (.int .i64 (w:Nat)))[i]?=some (.int .i64 (w:Nat)):=by rw[List.getElem?_set_self byO]
     have hg4:Heap.get (List.set H3 H.length (some (Y1.set i (.int .i64 (w:Nat))))) H.length=some (Y1.set i (.int .i64 (w:Nat))):=aF hbl3;have hx4:Ext H (List.set H3 H.length (some (Y1.set i (.int .i64 (w:Nat))))):=keepSet.ext hx3 (Nat.le_refl _);have hbl4:=Heap.get_lt hg4;have hYl2:(Y1.set i (.int .i64 (w:Nat))).length<=l.length+m/\l.length+m<=(Y1.set i (.int .i64 (w:Nat))).length:=by simp;omega
     have hss2:False\/∀y,(Y1.set i (.int .i64 (w:Nat))).set i (.int .i64 y)=Y1.set i (.int .i64 y):=.inr (fun y=>List.set_set ..);generalize List.set H3 H.length (some (Y1.set i (.int .i64 (w:Nat))))=H4 at hg4 hx4 hbl4;by_cases h254:w>254
     ·have hd:decide ((w:Int)>254)=true:=decide_eq_true byO
      have hp2:=hp.resolve_left id;rw[if_pos h254]at hp2;have e2:=hss.resolve_left id (w:Nat);generalize Y1.set i (.int .i64 (w:Nat))=Y2 at hgY2 hg4 hYl2 hss2 e2;clear hgY hg3 hbl3 hp e2;replace hp2:False\/_:=.inr hp2;refine aN ?_ ?_<;>intro h
      ·clear h hd
       refine aE ?_;have hfi:=hfin.resolve_left id ((w:Int)-254) (List.set H4 H.length (some (Y2.set i (.int .i64 ((w:Int)-254))))) (by unfold yn;rw[hp2.resolve_left id];omega) (keepSet.ext hx4 (Nat.le_refl _)) (by rw[aF hbl4,hss2.resolve_left id,hss.resolve_left id]);exact⟨hfi,aJ ncM⟩
      ·simp at h
     ·have hd:decide ((w:Int)>254)=false:=decide_eq_false byO
      have hp2:=hp.resolve_left id;rw[if_neg h254]at hp2;have hfi:=hfin.resolve_left id (w:Nat) H4 (by unfold yn;rw[hp2]) hx4 (by rw[hg4,hss.resolve_left id]);replace hfi:False\/_:=.inr hfi;clear hp2 hp;generalize Y1.set i (.int .i64 (w:Nat))=Y2 at hgY2 hg4 hYl2 hss2;refine aN ?_ ?_<;>intro h
      ·simp at h
      ·clear h hd
       refine aE ?_;exact⟨hfi.resolve_left id,aJ ncM⟩
    ·simp at h
  ·rintro S H2 ⟨⟨hx2,hg2⟩,z,rfl⟩
   rw[Nat.sub_self,List.replicate_zero,List.append_nil]at hg2;have hsl:SlI H2 (.slice (some ⟨H.length,0,none⟩) (l.length+m) (l.length+m)) (gK l m):=Sl.whole hg2 (lD l m);clear hg2;refine aE ?_;refine dB ?_;exact⟨hx2,_,rfl,hsl⟩
end
end Go.Proofs.YtmnlgdpdgjbfgaaGreat
