/- Dmtext: the sequence of codewords. Dmtext: Encode, Length. -/
import Derived.Test.YthnflhimcmdnbaaT15
set_option linter.unusedVariables false
set_option linter.unusedSimpArgs false
set_option linter.unusedSectionVars false
namespace Go.Proofs.Ythnflhimcmdnbaa
open Go.Abs
set_option linter.unusedSimpArgs false
set_option linter.unusedVariables false
set_option maxRecDepth 20000
def wS0:Stm:=match bd18 with | .seq s _=>s|_=>.skip
def wB:Stm:=match bd18 with | .seq _ (.scope b _)=>b|_=>.skip
def wB1:Stm:=match wB with | .seq s _=>s|_=>.skip
def wB2:Stm:=match wB with | .seq _ (.seq s _)=>s|_=>.skip
def wB3:Stm:=match wB with | .seq _ (.seq _ (.seq s _))=>s|_=>.skip
def wA0:Stm:=match bd18 with | .seq _ (.scope _ (.alt _ a _))=>a|_=>.skip
def wA1:Stm:=match bd18 with | .seq _ (.scope _ (.alt _ _ (.alt _ a _)))=>a|_=>.skip
def wA2:Stm:=match bd18 with | .seq _ (.scope _ (.alt _ _ (.alt _ _ (.alt _ a _))))=>a|_=>.skip
def wA3:Stm:=match bd18 with | .seq _ (.scope _ (.alt _ _ (.alt _ _ (.alt _ _ a))))=>a|_=>.skip
theorem words_eq:bd18=.seq wS0 (.scope (.seq wB1 (.seq wB2 (.seq wB3 wA0))) (.alt 0 wA0 (.alt 1 wA1 (.alt 2 wA2 wA3)))):=by kernel_rfl
section
variable {lo:Nat}{A:Heap}{sb cb bo ob cap:Nat}{v:Value}{p:List UInt8}{cs R:List Nat}
structure Nd (A H:Heap)(sb cb bo ob cap:Nat)(v:Value)(p:List UInt8)(cs R:List Nat)(a st f:Nat)(W:List Nat):Prop where
 s:SrH A sb cb v p cs
 ext:Ext A H
 out:OutH H bo cap W
 op:∃o,H.get ob=some (optC o)
 lbo:A.length≤bo
 lob:A.length≤ob
 ne:bo≠ob
 ha:a≤p.length
 hs:st<19
 cost:W.length+cst cs a st=cap
 big:cap≤10000
 fuel:cst cs a st<f
 res:wrdS p cs f a st W=R
structure NdO (A H:Heap)(sb cb bo ob cap:Nat)(v:Value)(p:List UInt8)(cs R:List Nat)(a f:Nat)(o:Opt)(W:List Nat):Prop where
 s:SrH A sb cb v p cs
 ext:Ext A H
 out:OutH H bo cap W
 op:H.get ob=some (optC o)
 lbo:A.length≤bo
 lob:A.length≤ob
 ne:bo≠ob
 ok:o.ok p.length a
 cost:W.length+totS cs o=cap
 big:cap≤10000
 fuel:totS cs o<f+1
 ha:a+o.run≤p.length
 res:wrdS p cs f o.nx o.md (W++emit p W.length a o)=R
def jumps(A:Heap)(sb cb bo ob cap:Nat)(v:Value)(p:List UInt8)(cs R:List Nat):Nat→Nat→List Value→Heap→Prop:=fun m l S H=>
 (l=0∧∃a st f W,m=3*cst cs a st∧Nd A H sb cb bo ob cap v p cs R a st f W∧∃(z:Nat→Value),S=[ptr sb,z 1,outV bo cap W,encN a,encN st,ptr ob,z 6,z 7,z 8,z 9,z 10,z 11,z 12,z 13,z 14,z 15,z 16,z 17,z 18,z 19,z 20,z 21,z 22,z 23,z 24,z 25,z 26,z 27,z 28,z 29]) ∨
 (l=1∧∃a f o W,m=3*totS cs o-1∧0<o.run∧NdO A H sb cb bo ob cap v p cs R a f o W∧∃(z:Nat→Value),S=[ptr sb,z 1,outV bo cap W,encN a,z 4,ptr ob,z 6,z 7,z 8,z 9,z 10,z 11,z 12,z 13,z 14,z 15,z 16,z 17,z 18,z 19,z 20,z 21,z 22,z 23,z 24,z 25,z 26,z 27,z 28,z 29]) ∨
 (l=2∧∃a f o W,m=3*cst cs o.nx o.md+1∧Nd A H sb cb bo ob cap v p cs R o.nx o.md f W∧H.get ob=some (optC o)∧∃(z:Nat→Value),S=[ptr sb,z 1,outV bo cap W,encN a,z 4,ptr ob,z 6,z 7,z 8,z 9,z 10,z 11,z 12,z 13,z 14,z 15,z 16,z 17,z 18,z 19,z 20,z 21,z 22,z 23,z 24,z 25,z 26,z 27,z 28,z 29])
theorem chain0{Q:Post}{H:Heap}{a st f:Nat}{W:List Nat}{S:List Value}(hsol:Sol p cs)(hlo:lo≤A.length)(hn:Nd A H sb cb bo ob cap v p cs R a st f W)(hS:∃(z:Nat→Value),S=[ptr sb,z 1,outV bo cap W,encN a,encN st,ptr ob,z 6,z 7,z 8,z 9,z 10,z 11,z 12,z 13,z 14,z 15,z 16,z 17,z 18,z 19,z 20,z 21,z 22,z 23,z 24,z 25,z 26,z 27,z 28,z 29])
  (hret:∀S' H',Ext A H'→OutH H' bo cap R→S'[1]?=some (outV bo cap R)→Q .ret S' H')
  (h1:∀f o H' S',NdO A H' sb cb bo ob cap v p cs R a f o W→totS cs o=cst cs a st→0<o.run→(∃(z:Nat→Value),S'=[ptr sb,z 1,outV bo cap W,encN a,z 4,ptr ob,z 6,z 7,z 8,z 9,z 10,z 11,z 12,z 13,z 14,z 15,z 16,z 17,z 18,z 19,z 20,z 21,z 22,z 23,z 24,z 25,z 26,z 27,z 28,z 29])→Q (.exit 1000001) S' H')
  (h2:∀f o W H' S',Nd A H' sb cb bo ob cap v p cs R o.nx o.md f W→cst cs o.nx o.md<cst cs a st→H'.get ob=some (optC o)→(∃(z:Nat→Value),S'=[ptr sb,z 1,outV bo cap W,encN a,z 4,ptr ob,z 6,z 7,z 8,z 9,z 10,z 11,z 12,z 13,z 14,z 15,z 16,z 17,z 18,z 19,z 20,z 21,z 22,z 23,z 24,z 25,z 26,z 27,z 28,z 29])→Q (.exit 1000002) S' H'):wpS cp lo wA0 Q S H:=by
 obtain⟨z,rfl⟩:=hS
 show wpS cp lo (match bd18 with | .seq _ (.scope _ (.alt _ a _))=>a|_=>.skip) _ _ _
 unfold bd18
 simp only[kB,ctlB]
 have hsH:=hn.s.ext hn.ext
 have hgs:=hsH.g
 obtain⟨ad,c,ev⟩:=hsH.pl.len
 rw[ev]at hgs
 have hi:=hsH.hi
 have hlA:=hn.ext.1
 by_cases hfin:st=0∧a=p.length
 ·have hR:W=R:=by
   have h1:=hn.res
   have h2:=hn.fuel
   match f,h2 with
   | f+1,_=>rw[wrdS,if_pos hfin]at h1;exact h1
  subst hR
  obtain⟨hf1,hf2⟩:=hfin
  have hd1:decide ((st:Int)=0)=true:=decide_eq_true (by omega)
  have hd2:decide ((a:Int)=(p.length:Nat))=true:=decide_eq_true (by omega)
  replace hf1:st≤0:=by omega
  replace hf2:a≤p.length∧p.length≤a:=by omega
  refine xCDg (fun h=>?_) (fun h=>?_)
  ·(try simp only[ctlB])
   repeat' ((first|refine xSDg ?_|refine xODg rfl ?_);(try simp only[ctlB]))
   exact hret _ _ hn.ext hn.out rfl
  ·cases h
 ·have hd1:(decide ((st:Int)=0)&&decide ((a:Int)=(p.length:Nat)))=false:=by
   simp only[Bool.and_eq_false_iff,decide_eq_false_iff_not];omega
  have hcst:cst cs a st<1073741824:=by have:=hn.cost;have:=hn.big;omega
  obtain⟨hmem,htot⟩:=chs_ok hsol hn.ha hn.hs hcst hfin
  have hok:=optS_ok hn.ha _ hmem
  have hcost:=hn.cost
  have hbig:=hn.big
  have hf:=hn.fuel
  have hres:=hn.res
  have hha:=hn.ha
  have hhs:=hn.hs
  obtain⟨f,rfl⟩:∃g,f=g+1:=⟨f-1,by omega⟩
  rw[wrdS,if_neg hfin]at hres
  have hrun:a+(chs p cs a st).run≤p.length:=by
   rcases optS_run _ hmem with h|h
   ·omega
   ·have:=hok.nx.2;omega
  clear hcst hmem
  refine xCDg (fun h=>?_) (fun h=>?_)
  ·exfalso;first|(rw[hd1]at h;cases h)|cases h
  clear h hd1
  replace hres:False∨_:=.inr hres
  replace htot:False∨_:=.inr htot
  replace hcost:False∨_:=.inr hcost
  (try simp only[ctlB])
  refine xHDg ?_
  refine wpH_call0 (chooP (lo:=lo) hsH hha hhs (by omega)) ?_
  rintro r H1 ⟨hx1,rfl⟩
  generalize chs p cs a st=o at hres htot hok hrun
  obtain⟨oo,hob⟩:=hn.op
  have hob1:=hx1.get hob
  have hobl:=Heap.get_lt hob1
  have hlob:=hn.lob
  (try simp only[ctlB])
  repeat' ((first|refine xSDg ?_|refine xODg rfl ?_);(try simp only[ctlB]))
  change wpS cp lo _ _ _ (List.set H1 ob (some (optC o)))
  have hk2:Keep ob H1 (List.set H1 ob (some (optC o))):=keepSet
  have hg2:Heap.get (List.set H1 ob (some (optC o))) ob=some (optC o):=get_set_self (by omega)
  have hn2:NdO A (List.set H1 ob (some (optC o))) sb cb bo ob cap v p cs R a f o W:=
   ⟨hn.s,hk2.ext (hn.ext.trans hx1) hn.lob,(hn.out.mono hx1).keep hk2 hn.ne,hg2,hn.lbo,hn.lob,hn.ne,hok,by rw[htot.resolve_left id];exact hcost.resolve_left id,hbig,by rw[htot.resolve_left id];exact hf,hrun,hres.resolve_left id⟩
  generalize List.set H1 ob (some (optC o))=H2 at hk2 hg2 hn2
  have o1:=hok.sz
  have o2:=hok.run
  have o3:=hok.nx
  have o4:=hok.md
  have er:(optC o)[4]?=some (encN o.run):=rfl
  have ez:(optC o)[3]?=some (encN o.sz):=rfl
  clear hob hob1 hgs
  by_cases hr0:0<o.run
  ·have hd:decide ((o.run:Int)>0)=true:=decide_eq_true (by omega)
   have hd2:decide ((0:Int)<(o.run:Nat))=true:=decide_eq_true (by omega)
   refine xCDg (fun h=>?_) (fun h=>?_)
   ·(try simp only[ctlB])
    exact h1 _ _ _ _ hn2 (htot.resolve_left id) hr0 (exZDe rfl)
   ·exfalso;simp at h
  ·have hd:decide ((o.run:Int)>0)=false:=decide_eq_false (by omega)
   have hd2:decide ((0:Int)<(o.run:Nat))=false:=decide_eq_false (by omega)
   have hem:emit p W.length a o=Go.Proofs.Ythnflhimcmdnbaa.hd o:=by unfold emit;rw[if_pos (by omega)]
   have hts:totS cs o=o.sz+o.run+cst cs o.nx o.md:=rfl
   have hout:=hn2.out
   have hhl:=hd_len o1.2
   refine xCDg (fun h=>?_) (fun h=>?_)
   ·exfalso;simp at h
   clear h hd hd2
   replace hem:False∨_:=.inr hem
   replace hts:False∨_:=.inr hts
   have hcap:W.length+o.sz+cst cs o.nx o.md≤cap:=by
    have:=hcost.resolve_left id
    have:=htot.resolve_left id
    have:=hts.resolve_left id
    omega
   (try simp only[ctlB])
   refine xHDg ?_
   refine outApp (L:=Go.Proofs.Ythnflhimcmdnbaa.hd o) hout (by have:=hn.lbo;omega) hg2 (by rw[optC_len];omega) ?_ hhl (by omega) ?_
   ·unfold Go.Proofs.Ythnflhimcmdnbaa.hd optC
    have:o.sz=1∨o.sz=2∨o.sz=3:=by omega
    rcases this with e|e|e<;>rw[e]<;>rfl
   intro H3 ho3 hk3 hl3
   (try simp only[ctlB])
   repeat' ((first|refine xSDg ?_|refine xODg rfl ?_);(try simp only[ctlB]))
   refine h2 f o (W++Go.Proofs.Ythnflhimcmdnbaa.hd o) H3 _ ⟨hn.s,hk3.ext hn2.ext hn.lbo,ho3,⟨o,hk3.get hg2 (fun e=>hn.ne e.symm)⟩,hn.lbo,hn.lob,hn.ne,o3.2,o4,?_,hbig,?_,?_⟩ ?_ (hk3.get hg2 (fun e=>hn.ne e.symm)) (exZDe rfl)
   ·rw[List.length_append,hhl]
    have:=hcost.resolve_left id
    have:=htot.resolve_left id
    have:=hts.resolve_left id
    omega
   ·have:=htot.resolve_left id
    have:=hts.resolve_left id
    omega
   ·rw[←hem.resolve_left id];exact hres.resolve_left id
   ·have:=htot.resolve_left id
    have:=hts.resolve_left id
    omega
theorem chain2{Q:Post}{H:Heap}{a f:Nat}{o:Opt}{W:List Nat}{S:List Value}(hn:Nd A H sb cb bo ob cap v p cs R o.nx o.md f W)(hg:H.get ob=some (optC o))(hS:∃(z:Nat→Value),S=[ptr sb,z 1,outV bo cap W,encN a,z 4,ptr ob,z 6,z 7,z 8,z 9,z 10,z 11,z 12,z 13,z 14,z 15,z 16,z 17,z 18,z 19,z 20,z 21,z 22,z 23,z 24,z 25,z 26,z 27,z 28,z 29])
  (h0:∀S',(∃z:Nat→Value,S'=[ptr sb,z 1,outV bo cap W,encN o.nx,encN o.md,ptr ob,z 6,z 7,z 8,z 9,z 10,z 11,z 12,z 13,z 14,z 15,z 16,z 17,z 18,z 19,z 20,z 21,z 22,z 23,z 24,z 25,z 26,z 27,z 28,z 29])→Q (.exit 1000000) S' H):wpS cp lo wA2 Q S H:=by
 obtain⟨z,rfl⟩:=hS
 show wpS cp lo (match bd18 with | .seq _ (.scope _ (.alt _ _ (.alt _ _ (.alt _ a _))))=>a|_=>.skip) _ _ _
 unfold bd18
 simp only[kB,ctlB]
 have e5:(optC o)[5]?=some (encN o.nx):=rfl
 have e6:(optC o)[6]?=some (encN o.md):=rfl
 repeat' ((first|refine xSDg ?_|refine xODg rfl ?_);(try simp only[ctlB]))
 exact h0 _ (exZDe rfl)
theorem getD_map{l:List UInt8}{k:Nat}(h:k<l.length):(l.map UInt8.toNat).getD k 0=(l.getD k 0).toNat:=by
 simp[List.getD_eq_getElem?_getD,List.getElem?_map,List.getElem?_eq_getElem h]
theorem sl_sub{H:Heap}{v:Value}{l:List UInt8}{a n:Nat}(h:SlU H v l)(hn:a+n≤l.length)(hn0:0<n):∃v',(∀G,lsem (.sl 1 true true false) [v,.int .i64 (a:Nat),.int .i64 ((a:Int)+(n:Nat))] G=some v')∧SlU H v' ((l.drop a).take n):=by
 rcases h with ⟨rfl,rfl⟩|⟨b,o,sp,cap,xs,rfl,h2,h3,h4,h5,h6⟩
 ·have:n=0:=by have:([]:List UInt8).length=0:=rfl;omega
  omega
 ·have hd:(xs.drop (o+a)).take n=((l.drop a).take n).map encU:=by
   rw[List.map_take,List.map_drop,←h3,←List.drop_drop,List.drop_take,List.take_take,Nat.min_eq_left (by omega)]
  have hl:((l.drop a).take n).length=n:=by simp;omega
  have hb:bounds l.length cap true true false [Value.int .i64 (a:Nat),.int .i64 ((a:Int)+(n:Nat))]=some (a,a+n,cap):=by
   simp[bounds,toB]
   rw[if_pos ⟨by omega,by omega⟩,show((a:Int)+(n:Nat)).toNat=a+n by omega]
   simp
  rcases h5 with rfl|rfl
  ·refine⟨.slice (some ⟨b,o+a,none⟩) n (cap-a),?_,.inr ⟨b,o+a,none,cap-a,xs,by rw[hl],h2,by rw[hl];exact hd,by rw[hl];omega,.inl rfl,by rw[hl];omega⟩⟩
   intro G
   rw[ls_slx,hb]
   simp;omega
  ·refine⟨.slice (some ⟨b,o+a,some 1⟩) n (cap-a),?_,.inr ⟨b,o+a,some 1,cap-a,xs,by rw[hl],h2,by rw[hl];exact hd,by rw[hl];omega,.inr rfl,by rw[hl];omega⟩⟩
   intro G
   rw[ls_sli,hb]
   simp
theorem chain1{Q:Post}{H:Heap}{a f:Nat}{o:Opt}{W:List Nat}{S:List Value}(hlo:lo≤A.length)(hn:NdO A H sb cb bo ob cap v p cs R a f o W)(hr:0<o.run)(hS:∃(z:Nat→Value),S=[ptr sb,z 1,outV bo cap W,encN a,z 4,ptr ob,z 6,z 7,z 8,z 9,z 10,z 11,z 12,z 13,z 14,z 15,z 16,z 17,z 18,z 19,z 20,z 21,z 22,z 23,z 24,z 25,z 26,z 27,z 28,z 29])
  (h0:∀S' H' W',Nd A H' sb cb bo ob cap v p cs R o.nx o.md f W'→(∃z:Nat→Value,S'=[ptr sb,z 1,outV bo cap W',encN o.nx,encN o.md,ptr ob,z 6,z 7,z 8,z 9,z 10,z 11,z 12,z 13,z 14,z 15,z 16,z 17,z 18,z 19,z 20,z 21,z 22,z 23,z 24,z 25,z 26,z 27,z 28,z 29])→Q (.exit 1000000) S' H'):wpS cp lo wA1 Q S H:=by
 obtain⟨z,rfl⟩:=hS
 show wpS cp lo (match bd18 with | .seq _ (.scope _ (.alt _ _ (.alt _ a _)))=>a|_=>.skip) _ _ _
 unfold bd18
 simp only[kB,ctlB]
 have hg:=hn.op
 have hobl:=Heap.get_lt hg
 have e0:(optC o)[0]?=some (encN o.h0):=rfl
 have e3:(optC o)[3]?=some (encN o.sz):=rfl
 have e4:(optC o)[4]?=some (encN o.run):=rfl
 have o1:=hn.ok.sz
 have o2:=hn.ok.run
 have o3:=hn.ok.nx
 have o4:=hn.ok.md
 have oh:=hn.ok.h
 have hcost:=hn.cost
 have hbig:=hn.big
 have hlbo:=hn.lbo
 have hlob:=hn.lob
 have hts:totS cs o=o.sz+o.run+cst cs o.nx o.md:=rfl
 have hcap:W.length+o.sz+o.run+cst cs o.nx o.md=cap:=by omega
 replace hcap:W.length+o.sz+o.run+cst cs o.nx o.md≤cap∧cap≤W.length+o.sz+o.run+cst cs o.nx o.md:=by omega
 clear hts hcost
 have hxA:=hn.ext
 have hlA:=hxA.1
 repeat' ((first|refine xSDg ?_|refine xODg rfl ?_);(try simp only[ctlB]))
 change wpS cp lo _ _ _ (H++[some [encN o.h0]])
 have hxb:Ext H (H++[some [encN o.h0]]):=Ext.app _ _
 have hgb:(H++[some [encN o.h0]]).get H.length=some [encN o.h0]:=get_app0
 generalize H++[some [encN o.h0]]=H1 at hxb hgb
 refine xHDg ?_
 refine outApp (L:=[o.h0]) (hn.out.mono hxb) (by omega) hgb (by simp) rfl rfl (by omega) ?_
 intro H2 ho2 hk2 hl2
 have hg2:=hk2.get (hxb.get hg) (fun e=>hn.ne e.symm)
 have hx2:=hk2.ext (hxA.trans hxb) hlbo
 clear hgb
 have hL1:(W++[o.h0]).length=W.length+1:=by simp
 generalize hW1:W++[o.h0]=W1 at ho2 hL1
 replace hL1:W1.length≤W.length+1∧W.length+1≤W1.length:=by omega
 have hb3:bounds 3 3 true true false [Value.int .i64 1,encN o.sz]=some (1,o.sz,3):=by
  simp[bounds,toB]
  rw[if_pos o1.2,Option.bind_some,if_pos (by omega)]
  rfl
 obtain⟨D,hD⟩:∃D,False∨(Go.Proofs.Ythnflhimcmdnbaa.hd o).drop 1=D:=⟨_,.inr rfl⟩
 have hDl:D.length≤o.sz-1∧o.sz-1≤D.length:=by
  rw[←hD.resolve_left id,List.length_drop,hd_len o1.2];omega
 have hDat:False∨∀k,k<D.length→(optC o)[1+k]?=some (encN (D.getD k 0))∧D.getD k 0≤255:=by
  right
  rw[←hD.resolve_left id]
  unfold Go.Proofs.Ythnflhimcmdnbaa.hd optC
  intro k hk
  have:o.sz=1∨o.sz=2∨o.sz=3:=by omega
  rcases this with e|e|e
  ·rw[e]at hk;simp at hk
  ·rw[e]at hk ⊢
   have:k=0:=by simp at hk;omega
   subst this
   exact⟨rfl,oh.2.1⟩
  ·rw[e]at hk ⊢
   have:k=0∨k=1:=by simp at hk;omega
   rcases this with rfl|rfl
   ·exact⟨rfl,oh.2.1⟩
   ·exact⟨rfl,oh.2.2⟩
 (try simp only[ctlB])
 repeat' ((first|refine xSDg ?_|refine xODg rfl ?_);(try simp only[ctlB]))
 refine aw_midXB (fun S' H'=>(Ext A H'∧OutH H' bo cap (W1++mk W1.length D)∧H'.get ob=some (optC o))∧∃z:Nat→Value,S'=[ptr sb,z 1,outV bo cap (W1++mk W1.length D),encN a,z 4,ptr ob,z 6,z 7,z 8,z 9,z 10,z 11,z 12,z 13,z 14,z 15,z 16,z 17,z 18,z 19,z 20,z 21,z 22,z 23,z 24,z 25,z 26,z 27,z 28,z 29]) ?_ ?_
 ·skip
  refine aw_for (fun k S H'=>(Ext A H'∧OutH H' bo cap (W1++mk W1.length (D.take k))∧H'.get ob=some (optC o))∧∃(z:Nat→Value),S=[ptr sb,z 1,outV bo cap (W1++mk W1.length (D.take k)),encN a,z 4,ptr ob,z 6,z 7,z 8,z 9,z 10,z 11,z 12,z 13,.slice (some ⟨ob,1,none⟩) (o.sz-1) (3-1),.int .i64 (o.sz-1:Nat),.int .i64 (k:Nat),z 17,z 18,z 19,z 20,z 21,z 22,z 23,z 24,z 25,z 26,z 27,z 28,z 29]) (o.sz-1) ⟨⟨hx2,by simpa[mk]using ho2,hg2⟩,exZDe (by simp[mk];done)⟩ ?_ ?_ ?_
  ·rintro k S H' hk ⟨_,z,rfl⟩
   exact⟨decide ((k:Int)<((o.sz-1:Nat):Int)),by simp(disch:=first|omega|(simp only[lenB];omega))only[evB,xBDc,Nat.reduceAdd,Nat.reduceBEq,Int.reduceToNat, *],by simp⟩
  ·rintro k S H3 hk ⟨⟨hx3,ho3,hg3⟩,z,rfl⟩
   obtain⟨hat,hle⟩:=hDat.resolve_left id k (by omega)
   have hsn:=mk_snoc W1.length (D.take k) (D.getD k 0)
   rw[←take_snoc (by omega:k<D.length),List.length_take_of_le (by omega:k≤D.length)]at hsn
   have hml:=mk_len W1.length (D.take k)
   rw[List.length_take_of_le (by omega:k≤D.length)]at hml
   rw[hsn,←List.append_assoc]
   generalize D.getD k 0=x at hat hle
   have hWl:(W1++mk W1.length (D.take k)).length≤W1.length+k∧W1.length+k≤(W1++mk W1.length (D.take k)).length:=by simp[hml]
   have hle2:(W1++mk W1.length (D.take k)).length=W1.length+k:=by omega
   generalize W1++mk W1.length (D.take k)=W2 at ho3 hWl hle2
   rw[←hle2]
   clear hsn hml hle2
   have hmm:msk W2.length≤256:=by unfold msk;omega
   have hl3:=hx3.1
   (try simp only[ctlB])
   repeat' ((first|refine xSDg ?_|refine xODg rfl ?_);(try simp only[ctlB]))
   refine xHDg ?_
   refine wpH_call0 (maskP (lo:=lo) (k:=W2.length) (by omega)) ?_
   rintro r H4 ⟨rfl,rfl⟩
   generalize msk W2.length=ms at hmm
   have em:((x:Int)+(ms:Nat)).tmod 256=(((x+ms)%256:Nat):Int):=by rw[Int.tmod_eq_emod_of_nonneg (by omega)];omega
   have hy:(x+ms)%256<256:=by omega
   generalize (x+ms)%256=y at em hy
   (try simp only[ctlB])
   repeat' ((first|refine xSDg ?_|refine xODg rfl ?_);(try simp only[ctlB]))
   change wpS cp lo _ _ _ (H3++[some [encN y]])
   have hxd:Ext H3 (H3++[some [encN y]]):=Ext.app _ _
   have hgd:(H3++[some [encN y]]).get H3.length=some [encN y]:=get_app0
   have hld:(H3++[some [encN y]]).length≤H3.length+1∧H3.length+1≤(H3++[some [encN y]]).length:=by simp
   generalize H3++[some [encN y]]=H5 at hxd hgd hld
   refine xHDg ?_
   refine outApp (L:=[y]) (ho3.mono hxd) (by omega) hgd (by simp) rfl rfl (by omega) ?_
   intro H6 ho6 hk6 hl6
   have hx6:=hk6.ext (hx3.trans hxd) hlbo
   have hg6:=hk6.get (hxd.get hg3) (fun e=>hn.ne e.symm)
   clear hgd
   (try simp only[ctlB])
   repeat' ((first|refine xSDg ?_|refine xODg rfl ?_);(try simp only[ctlB]))
   exact⟨⟨hx6,ho6,hg6⟩,exZDe (by first|rfl|(simp only[Int.natCast_add,Int.natCast_one];rfl)|simp only[Int.natCast_add,Int.natCast_one])⟩
  ·rintro S H3 ⟨⟨hx3,ho3,hg3⟩,z,rfl⟩
   rw[List.take_of_length_le hDl.1]at *
   (try simp only[ctlB])
   exact⟨⟨hx3,ho3,hg3⟩,exZDe rfl⟩
 ·rintro S1 H7 ⟨⟨hx7,ho7,hg7⟩,z1,rfl⟩
  have hW3l:(W1++mk W1.length D).length=W1.length+(o.sz-1):=by rw[List.length_append,mk_len];omega
  obtain⟨W3,hW3⟩:∃W3,False∨W1++mk W1.length D=W3:=⟨_,.inr rfl⟩
  rw[hW3.resolve_left id]at ho7 hW3l ⊢
  replace hW3l:W3.length≤W1.length+(o.sz-1)∧W1.length+(o.sz-1)≤W3.length:=by omega
  clear hDat hg2 ho2 hx2
  have hs7:=hn.s.ext hx7
  have hgs7:=hs7.g
  have hr3:=hn.ha
  obtain⟨pv,hpv,hsvA⟩:=sl_sub hn.s.pl hr3 hr
  obtain⟨av,cv,rfl⟩:=hsvA.len
  have hpv7:=hpv H7
  have hRl:((p.drop a).take o.run).length=o.run:=by simp;omega
  rw[hRl]at hpv7 hsvA
  obtain⟨E,hE⟩:∃E,False∨runB p a o.run=E:=⟨_,.inr rfl⟩
  have hEl:E.length≤o.run∧o.run≤E.length:=by rw[←hE.resolve_left id];unfold runB;rw[List.length_map,hRl];omega
  have hEat:False∨∀k,k<o.run→E.getD k 0=(((p.drop a).take o.run).getD k 0).toNat:=by
   right
   intro k hk
   rw[←hE.resolve_left id]
   exact getD_map (by omega)
  clear hpv
  have hi:=hn.s.hi
  (try simp only[ctlB])
  repeat' ((first|refine xSDg ?_|refine xODg rfl ?_);(try simp only[ctlB]))
  have e5:(optC o)[5]?=some (encN o.nx):=rfl
  have e6:(optC o)[6]?=some (encN o.md):=rfl
  refine aw_midXB (fun S' H'=>(Ext A H'∧OutH H' bo cap (W3++mk W3.length E)∧H'.get ob=some (optC o))∧∃z:Nat→Value,S'=[ptr sb,z 1,outV bo cap (W3++mk W3.length E),encN a,z 4,ptr ob,z 6,z 7,z 8,z 9,z 10,z 11,z 12,z 13,z 14,z 15,z 16,z 17,z 18,z 19,z 20,z 21,z 22,z 23,z 24,z 25,z 26,z 27,z 28,z 29]) ?_ ?_
  ·refine aw_for (fun k S H'=>(Ext A H'∧OutH H' bo cap (W3++mk W3.length (E.take k))∧H'.get ob=some (optC o))∧∃(z:Nat→Value),S=[ptr sb,z 1,outV bo cap (W3++mk W3.length (E.take k)),encN a,z 4,ptr ob,z 6,z 7,z 8,z 9,z 10,z 11,z 12,z 13,z 14,z 15,z 16,z 17,z 18,z 19,z 20,z 21,.slice av o.run cv,.int .i64 (o.run:Nat),.int .i64 (k:Nat),z 25,z 26,z 27,z 28,z 29]) o.run ⟨⟨hx7,by simpa[mk]using ho7,hg7⟩,exZDe (by simp[mk];done)⟩ ?_ ?_ ?_
   ·rintro k S H' hk ⟨_,z,rfl⟩
    exact⟨decide ((k:Int)<(o.run:Int)),by simp(disch:=first|omega|(simp only[lenB];omega))only[evB,xBDc,Nat.reduceAdd,Nat.reduceBEq,Int.reduceToNat, *],by simp⟩
   ·rintro k S H3 hk ⟨⟨hx3,ho3,hg3⟩,z,rfl⟩
    have hat0:=hEat.resolve_left id k hk
    have hsn:=mk_snoc W3.length (E.take k) (E.getD k 0)
    rw[←take_snoc (by omega:k<E.length),List.length_take_of_le (by omega:k≤E.length)]at hsn
    have hml:=mk_len W3.length (E.take k)
    rw[List.length_take_of_le (by omega:k≤E.length)]at hml
    obtain⟨bb,bo2,xs,hia,hgx,hxx⟩:=sl_at (hsvA.mono hx3) (k:=k) (by omega)
    rw[hsn,←List.append_assoc]
    have hxb:=(((p.drop a).take o.run).getD k 0).toNat_lt
    replace hxx:xs[bo2]?=some (.int .u8 ((((p.drop a).take o.run).getD k 0).toNat:Nat)):=hxx
    rw[←hat0]at hxx hxb
    generalize E.getD k 0=x at hxx hxb
    have hWl:(W3++mk W3.length (E.take k)).length≤W3.length+k∧W3.length+k≤(W3++mk W3.length (E.take k)).length:=by simp[hml]
    have hle2:(W3++mk W3.length (E.take k)).length=W3.length+k:=by omega
    generalize W3++mk W3.length (E.take k)=W2 at ho3 hWl hle2
    rw[←hle2]
    clear hsn hml hle2 hat0 hgs7 hpv7
    have hmm:msk W2.length≤256:=by unfold msk;omega
    have hl3:=hx3.1
    (try simp only[ctlB])
    repeat' ((first|refine xSDg ?_|refine xODg rfl ?_);(try simp only[ctlB]))
    refine xHDg ?_
    refine wpH_call0 (maskP (lo:=lo) (k:=W2.length) (by omega)) ?_
    rintro r H4 ⟨rfl,rfl⟩
    generalize msk W2.length=ms at hmm
    have em:((x:Int)+(ms:Nat)).tmod 256=(((x+ms)%256:Nat):Int):=by rw[Int.tmod_eq_emod_of_nonneg (by omega)];omega
    have hy:(x+ms)%256<256:=by omega
    generalize (x+ms)%256=y at em hy
    (try simp only[ctlB])
    repeat' ((first|refine xSDg ?_|refine xODg rfl ?_);(try simp only[ctlB]))
    change wpS cp lo _ _ _ (H3++[some [encN y]])
    have hxd:Ext H3 (H3++[some [encN y]]):=Ext.app _ _
    have hgd:(H3++[some [encN y]]).get H3.length=some [encN y]:=get_app0
    have hld:(H3++[some [encN y]]).length≤H3.length+1∧H3.length+1≤(H3++[some [encN y]]).length:=by simp
    generalize H3++[some [encN y]]=H5 at hxd hgd hld
    refine xHDg ?_
    refine outApp (L:=[y]) (ho3.mono hxd) (by omega) hgd (by simp) rfl rfl (by omega) ?_
    intro H6 ho6 hk6 hl6
    have hx6:=hk6.ext (hx3.trans hxd) hlbo
    have hg6:=hk6.get (hxd.get hg3) (fun e=>hn.ne e.symm)
    clear hgd
    (try simp only[ctlB])
    repeat' ((first|refine xSDg ?_|refine xODg rfl ?_);(try simp only[ctlB]))
    exact⟨⟨hx6,ho6,hg6⟩,exZDe (by first|rfl|(simp only[Int.natCast_add,Int.natCast_one];rfl)|simp only[Int.natCast_add,Int.natCast_one])⟩
   ·rintro S H3 ⟨⟨hx3,ho3,hg3⟩,z,rfl⟩
    rw[List.take_of_length_le hEl.1]at *
    (try simp only[ctlB])
    exact⟨⟨hx3,ho3,hg3⟩,exZDe rfl⟩
  ·rintro S1 H8 ⟨⟨hx8,ho8,hg8⟩,z1,rfl⟩
   have hem:W3++mk W3.length E=W++emit p W.length a o:=by
    rw[←hW3.resolve_left id,←hW1]
    unfold emit
    rw[if_neg (by omega),hD.resolve_left id,hE.resolve_left id,mk_app]
    simp only[List.append_assoc,List.cons_append,List.nil_append,List.length_append,List.length_cons,List.length_nil,mk_len,Nat.zero_add,show W.length+(D.length+1)=W.length+1+D.length by omega]
   have hlen:(W3++mk W3.length E).length=W3.length+o.run:=by rw[List.length_append,mk_len];omega
   have hres:=hn.res
   rw[←hem]at hres
   have hf:=hn.fuel
   have hts:totS cs o=o.sz+o.run+cst cs o.nx o.md:=rfl
   clear hem
   generalize W3++mk W3.length E=W4 at ho8 hlen hres
   replace hlen:W4.length≤W3.length+o.run∧W3.length+o.run≤W4.length:=by omega
   replace hres:False∨_:=.inr hres
   replace hts:False∨_:=.inr hts
   (try simp only[ctlB])
   repeat' ((first|refine xSDg ?_|refine xODg rfl ?_);(try simp only[ctlB]))
   refine h0 _ _ W4 ⟨hn.s,hx8,ho8,⟨o,hg8⟩,hlbo,hlob,hn.ne,o3.2,o4,by omega,hbig,?_,hres.resolve_left id⟩ (exZDe rfl)
   have:=hts.resolve_left id
   omega
theorem gotoQ_r{J:Nat→Nat→List Value→Heap→Prop}{Q:Post}{S:List Value}{H:Heap}:gotoQ J Q .ret S H=Q .ret S H:=rfl
theorem gotoM_r{J:Nat→Nat→List Value→Heap→Prop}{m:Nat}{Q:Post}{S:List Value}{H:Heap}:gotoM J m Q .ret S H=Q .ret S H:=rfl
theorem gotoQ_g{J:Nat→Nat→List Value→Heap→Prop}{Q:Post}{S:List Value}{H:Heap}{l:Nat}(h:∃m,J m l S H):gotoQ J Q (.exit (1000000+l)) S H:=by
 show(if gotoBase≤1000000+l then ∃m,J m (1000000+l-gotoBase) S H else Q _ S H)
 unfold gotoBase
 rw[if_pos (by omega),show 1000000+l-1000000=l by omega]
 exact h
theorem gotoM_g{J:Nat→Nat→List Value→Heap→Prop}{m:Nat}{Q:Post}{S:List Value}{H:Heap}{l:Nat}(h:∃m',m'<m∧J m' l S H):gotoM J m Q (.exit (1000000+l)) S H:=by
 show(if gotoBase≤1000000+l then ∃m',m'<m∧J m' (1000000+l-gotoBase) S H else Q _ S H)
 unfold gotoBase
 rw[if_pos (by omega),show 1000000+l-1000000=l by omega]
 exact h
theorem NdO.pos{A H:Heap}{a f:Nat}{o:Opt}{W:List Nat}(h:NdO A H sb cb bo ob cap v p cs R a f o W):cst cs o.nx o.md+1≤totS cs o:=by
 have:=h.ok.sz
 have e:totS cs o=o.sz+o.run+cst cs o.nx o.md:=rfl
 omega
theorem wordsP{H:Heap}(hs:SrH H sb cb v p cs)(hsol:Sol p cs)(hlo:lo≤H.length):Ev cp lo 18 [ptr sb] H (fun r H'=>Ext H H'∧SlN H' r (encS p cs)):=by
 refine st18 ?_
 rw[words_eq]
 rw[aw_seq]
 unfold wS0 bd18
 simp only[kB]
 have hgs:=hs.g
 have hgc:=hs.c
 have hlen:=hs.len
 have hi:=hs.hi
 have hcost:=cost_asc hsol p.length 0 (by omega)
 have hat:=uN_at (cs:=cs) (k:=0*19+0) (by omega)
 have hul:(uN cs).length≤cs.length∧cs.length≤(uN cs).length:=by simp
 replace hlen:cs.length≤(p.length+1)*19∧(p.length+1)*19≤cs.length:=by omega
 replace hat:(uN cs)[0]?=some (encN (cst cs 0 0)):=hat
 generalize hcap:cst cs 0 0=cap at hcost hat
 replace hcap:False∨_:=.inr hcap
 generalize uN cs=U at hgc hat hul
 have hret:∀{S' H'} {bo:Nat} {R':List Nat},R'=encS p cs→Ext H H'→OutH H' bo cap R'→S'[1]?=some (outV bo cap R')→bodyQ cf18 (fun r H'=>Ext H H'∧SlN H' r (encS p cs)) .ret S' H':=by
  intro S' H' bo R' hR hx ho hS
  subst hR
  refine body_ret (vs:=[outV bo cap (encS p cs)]) ?_ ⟨hx,ho.sl⟩
  unfold cf18
  simp(disch:=first|omega|(simp only[lenB];omega))only[evB,xBDc,Nat.reduceAdd,Nat.reduceBEq,Int.reduceToNat, *]
 generalize bodyQ cf18 (fun r H'=>Ext H H'∧SlN H' r (encS p cs))=QQ at hret
 replace hret:False∨_:=.inr @hret
 (try simp only[ctlB])
 repeat' ((first|refine xSDg ?_|refine xODg rfl ?_);(try simp only[ctlB]))
 refine aw_scope (jumps H sb cb H.length (H.length+1) cap v p cs (encS p cs)) ?_ ?_
 ·rw[aw_seq]
  unfold wB1 wB bd18
  simp only[kB]
  (try simp only[ctlB])
  repeat' ((first|refine xSDg ?_|refine xODg rfl ?_);(try simp only[ctlB]))
  have hxb:Ext H (H++[some (intL (List.replicate cap 0)),some [Value.int .i64 0,Value.int .i64 0,Value.int .i64 0,Value.int .i64 0,Value.int .i64 0,Value.int .i64 0,Value.int .i64 0]]):=Ext.app _ _
  have hg0:Heap.get (H++[some (intL (List.replicate cap 0)),some [Value.int .i64 0,Value.int .i64 0,Value.int .i64 0,Value.int .i64 0,Value.int .i64 0,Value.int .i64 0,Value.int .i64 0]]) H.length=some (intL (List.replicate cap 0)):=get_app0
  have hg1:Heap.get (H++[some (intL (List.replicate cap 0)),some [Value.int .i64 0,Value.int .i64 0,Value.int .i64 0,Value.int .i64 0,Value.int .i64 0,Value.int .i64 0,Value.int .i64 0]]) (H.length+1)=some (optC zeroO):=by rw[get_appS];rfl
  have hnd:Nd H (H++[some (intL (List.replicate cap 0)),some [Value.int .i64 0,Value.int .i64 0,Value.int .i64 0,Value.int .i64 0,Value.int .i64 0,Value.int .i64 0,Value.int .i64 0]]) sb cb H.length (H.length+1) cap v p cs (encS p cs) 0 0 (cst cs 0 0+1) []:=
   ⟨hs,hxb,⟨_,hg0,by simp[intL],by simp,by simp⟩,⟨zeroO,hg1⟩,Nat.le_refl _,by omega,by omega,by omega,by omega,by rw[hcap.resolve_left id];simp,by omega,by omega,rfl⟩
  generalize H++[some (intL (List.replicate cap 0)),some [Value.int .i64 0,Value.int .i64 0,Value.int .i64 0,Value.int .i64 0,Value.int .i64 0,Value.int .i64 0,Value.int .i64 0]]=H1 at hnd
  refine chain0 hsol hlo hnd (exZDe rfl) ?_ ?_ ?_
  ·intro S' H' hx ho h1
   rw[gotoQ_r]
   exact hret.resolve_left id rfl hx ho h1
  ·intro f o H' S' hn ht hr hS
   refine gotoQ_g (l:=1) ⟨_,.inr (.inl ⟨rfl,_,_,_,_,rfl,hr,hn,hS⟩)⟩
  ·intro f o W H' S' hn hlt hg hS
   exact gotoQ_g (l:=2) ⟨_,.inr (.inr ⟨rfl,_,f,o,W,rfl,hn,hg,hS⟩)⟩
 ·rintro m l S H1 (⟨rfl,a,st,f,W,rfl,hn,hS⟩|⟨rfl,a,f,o,W,rfl,hr,hn,hS⟩|⟨rfl,a,f,o,W,rfl,hn,hg,hS⟩)
  ·refine aw_alt (chain0 hsol hlo hn hS ?_ ?_ ?_)
   ·intro S' H' hx ho h1
    rw[gotoM_r]
    exact hret.resolve_left id rfl hx ho h1
   ·intro f o H' S' hn ht hr hS
    have:=hn.pos
    exact gotoM_g (l:=1) ⟨_,by omega,.inr (.inl ⟨rfl,_,_,_,_,rfl,hr,hn,hS⟩)⟩
   ·intro f o W H' S' hn hlt hg hS
    exact gotoM_g (l:=2) ⟨_,by omega,.inr (.inr ⟨rfl,_,f,o,W,rfl,hn,hg,hS⟩)⟩
  ·refine aw_altN (by decide) (aw_alt (chain1 hlo hn hr hS ?_))
   intro S' H' W' hn' hS'
   have:=hn.pos
   obtain⟨z,rfl⟩:=hS'
   exact gotoM_g (l:=0) ⟨_,by omega,.inl ⟨rfl,_,_,f,W',rfl,hn',exZDe rfl⟩⟩
  ·refine aw_altN (by decide) (aw_altN (by decide) (aw_alt (chain2 hn hg hS ?_)))
   intro S' hS'
   obtain⟨z,rfl⟩:=hS'
   exact gotoM_g (l:=0) ⟨_,by omega,.inl ⟨rfl,_,_,f,W,rfl,hn,exZDe rfl⟩⟩
end
end Go.Proofs.Ythnflhimcmdnbaa
namespace Go.Proofs.Ythnflhimcmdnbaa
open Go.Abs
set_option linter.unusedSimpArgs false
set_option linter.unusedVariables false
set_option maxRecDepth 20000
section
variable {lo:Nat}{H:Heap}{v:Value}{p:List UInt8}
theorem encP(hp:SlU H v p)(hl:p.length≤4096)(hlo:lo≤H.length):Ev cp lo 10 [v] H (fun r H'=>Ext H H'∧∃u cs,New p 0 cs∧r=.tuple #[u,.int .i64 0]∧SlN H' u (encS p cs)):=by
 obtain⟨ad,c,ev⟩:=hp.len
 subst ev
 refine st10 ?_;unfold bd10 cf10;simp only[kB,ctlB]
 repeat' ((first|refine xSDg ?_|refine xODg rfl ?_);(try simp only[ctlB]))
 refine xCDg (fun h=>?_) (fun h=>?_)
 ·exfalso;simp at h;omega
 clear h
 (try simp only[ctlB])
 refine xHDg ?_
 refine wpH_call0 (newP hp hl hlo) ?_
 rintro r H1 ⟨hx1,sb,cb,cs,rfl,hn,hs⟩
 have hl1:=hx1.1
 replace hn:False∨_:=.inr hn
 (try simp only[ctlB])
 refine xHDg ?_
 refine wpH_call0 (wordsP hs.s (new_sol (hn.resolve_left id)) (by omega)) ?_
 rintro r H2 ⟨hx2,hsl⟩
 (try simp only[ctlB])
 repeat' ((first|refine xSDg ?_|refine xODg rfl ?_);(try simp only[ctlB]))
 refine xRDg ?_
 exact⟨hx1.trans hx2,r,cs,hn.resolve_left id,rfl,hsl⟩
theorem encL(hp:SlU H v p)(hl:4096<p.length):Ev cp lo 10 [v] H (fun r H'=>H=H'∧r=.tuple #[.slice none 0 0,.int .i64 4]):=by
 obtain⟨ad,c,ev⟩:=hp.len
 subst ev
 refine st10 ?_;unfold bd10 cf10;simp only[kB,ctlB]
 repeat' ((first|refine xSDg ?_|refine xODg rfl ?_);(try simp only[ctlB]))
 refine xCDg (fun h=>?_) (fun h=>?_)
 ·(try simp only[ctlB])
  repeat' ((first|refine xSDg ?_|refine xODg rfl ?_);(try simp only[ctlB]))
  refine xRDg ?_
  exact⟨rfl,rfl⟩
 ·exfalso;simp at h;omega
theorem lngP(hp:SlU H v p)(hl:p.length≤4096)(hlo:lo≤H.length):Ev cp lo 12 [v] H (fun r H'=>Ext H H'∧∃cs,New p 0 cs∧r=.tuple #[encN (cst cs 0 0),.int .i64 0]):=by
 obtain⟨ad,c,ev⟩:=hp.len
 subst ev
 refine st12 ?_;unfold bd12 cf12;simp only[kB,ctlB]
 repeat' ((first|refine xSDg ?_|refine xODg rfl ?_);(try simp only[ctlB]))
 refine xCDg (fun h=>?_) (fun h=>?_)
 ·exfalso;simp at h;omega
 clear h
 (try simp only[ctlB])
 refine xHDg ?_
 refine wpH_call0 (newP hp hl hlo) ?_
 rintro r H1 ⟨hx1,sb,cb,cs,rfl,hn,hs⟩
 replace hn:False∨_:=.inr hn
 have hgs:=hs.s.g
 have hgc:=hs.s.c
 have hlen:=hs.s.len
 have hat:=uN_at (cs:=cs) (k:=0*19+0) (by omega)
 have hul:(uN cs).length≤cs.length∧cs.length≤(uN cs).length:=by simp
 replace hlen:cs.length≤(p.length+1)*19∧(p.length+1)*19≤cs.length:=by omega
 replace hat:(uN cs)[0]?=some (encN (cst cs 0 0)):=hat
 obtain⟨w,hw⟩:∃w,False∨cst cs 0 0=w:=⟨_,.inr rfl⟩
 rw[hw.resolve_left id]at hat
 generalize uN cs=U at hgc hat hul
 (try simp only[ctlB])
 repeat' ((first|refine xSDg ?_|refine xODg rfl ?_);(try simp only[ctlB]))
 refine xRDg ?_
 exact⟨hx1,cs,hn.resolve_left id,by rw[hw.resolve_left id];rfl⟩
theorem lngL(hp:SlU H v p)(hl:4096<p.length):Ev cp lo 12 [v] H (fun r H'=>H=H'∧r=.tuple #[.int .i64 0,.int .i64 4]):=by
 obtain⟨ad,c,ev⟩:=hp.len
 subst ev
 refine st12 ?_;unfold bd12 cf12;simp only[kB,ctlB]
 repeat' ((first|refine xSDg ?_|refine xODg rfl ?_);(try simp only[ctlB]))
 refine xCDg (fun h=>?_) (fun h=>?_)
 ·(try simp only[ctlB])
  repeat' ((first|refine xSDg ?_|refine xODg rfl ?_);(try simp only[ctlB]))
  refine xRDg ?_
  exact⟨rfl,rfl⟩
 ·exfalso;simp at h;omega
end
end Go.Proofs.Ythnflhimcmdnbaa
