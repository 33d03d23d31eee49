/- Dmtext, the reference: what Encode keeps in the heap. Dmtext, the reference: Encode. -/
import Derived.Test.YthnflhimcmdnbaaT35
set_option linter.unusedVariables false
set_option linter.unusedSimpArgs false
set_option linter.unusedSectionVars false
namespace Go.Proofs.Ythnflhimcmdnbaa
open Go.Abs
set_option linter.unusedSimpArgs false
set_option linter.unusedVariables false
set_option maxRecDepth 20000
structure StE (lo nb xb:Nat)(G H:Heap)(n:RN)(x:RS)(w q:Value)(W Pt:List Nat):Prop where
 ext:Ext G H
 gn:H.get nb=some (rnC n)
 gx:H.get xb=some (rsC x)
 lb:lo≤G.length
 nn:G.length≤nb∧G.length≤xb∧nb≠xb
 tw:∃bw bq,(G.length≤bw∧G.length≤bq)∧(Own lo 1 H w bw (uN W)∧Own lo 1 H q bq (uN Pt))∧(W≠[]→bw≠nb∧bw≠xb)∧(Pt≠[]→bq≠nb∧bq≠xb)∧(W≠[]→Pt≠[]→bw≠bq)
theorem own_nilv{lo b:Nat}{H:Heap}{v:Value}(h:Own lo 1 H v b (uN [])):v=.slice none 0 0:=by
 obtain⟨_,⟨h,_⟩|⟨n,h0,h1,_⟩⟩:=h
 ·exact h
 ·simp at h1;omega
theorem own_in{lo b:Nat}{H:Heap}{v:Value}{W:List Nat}(h:Own lo 1 H v b (uN W))(hW:W≠[]):b<H.length:=by
 obtain⟨_,⟨_,h⟩|⟨n,h0,h1,_,hg⟩⟩:=h
 ·exact absurd (List.map_eq_nil_iff.1 h) hW
 ·exact Heap.get_lt hg
theorem own_sl{lo b:Nat}{H:Heap}{v:Value}{W:List Nat}(h:Own lo 1 H v b (uN W)):∃a,v=.slice a W.length W.length:=by
 obtain⟨a,n,rfl,h1,_⟩:=h.len (by omega)
 have:n=W.length:=by simpa using h1
 subst this
 exact⟨a,rfl⟩
section
variable {lo nb xb:Nat}{G H:Heap}{n:RN}{x:RS}{w q:Value}{W Pt:List Nat}
theorem StE.mono{H':Heap}(h:StE lo nb xb G H n x w q W Pt)(e:Ext H H'):StE lo nb xb G H' n x w q W Pt:=by
 obtain⟨bw,bq,h1,⟨h2,h3⟩,h4⟩:=h.tw
 exact⟨h.ext.trans e,e.get h.gn,e.get h.gx,h.lb,h.nn,bw,bq,h1,⟨h2.mono e,h3.mono e⟩,h4⟩
theorem StE.swap(h:StE lo nb xb G H n x w q W Pt):StE lo nb xb G H n x q w Pt W:=by
 obtain⟨bw,bq,h1,⟨h2,h3⟩,h4,h5,h6⟩:=h.tw
 exact⟨h.ext,h.gn,h.gx,h.lb,h.nn,bq,bw,⟨h1.2,h1.1⟩,⟨h3,h2⟩,h5,h4,fun a b e=>h6 b a e.symm⟩
theorem StE.sl(h:StE lo nb xb G H n x w q W Pt):∃a,w=.slice a W.length W.length:=by
 obtain⟨bw,bq,h1,⟨h2,h3⟩,h4⟩:=h.tw
 exact own_sl h2
theorem StE.nil(h:StE lo nb xb G H n x w q W Pt):StE lo nb xb G H n x w (.slice none 0 0) W []:=by
 obtain⟨bw,bq,h1,⟨h2,h3⟩,h4,h5,h6⟩:=h.tw
 have:=h.lb
 exact⟨h.ext,h.gn,h.gx,h.lb,h.nn,bw,bq,h1,⟨h2,Own.nil (by omega)⟩,h4,fun e=>absurd rfl e,fun _ e=>absurd rfl e⟩
theorem StE.node{n':RN}(h:StE lo nb xb G H n x w q W Pt){H':Heap}(hk:Keep nb H H')(hg:H'.get nb=some (rnC n')):StE lo nb xb G H' n' x w q W Pt:=by
 obtain⟨bw,bq,h1,⟨h2,h3⟩,h4,h5,h6⟩:=h.tw
 refine⟨hk.ext h.ext h.nn.1,hg,hk.get h.gx (fun e=>h.nn.2.2 e.symm),h.lb,h.nn,bw,bq,h1,⟨?_,?_⟩,h4,h5,h6⟩
 ·by_cases e:W=[]
  ·subst e
   rw[own_nilv h2]
   exact Own.nil h2.1
  ·exact h2.keep hk (h4 e).1
 ·by_cases e:Pt=[]
  ·subst e
   rw[own_nilv h3]
   exact Own.nil h3.1
  ·exact h3.keep hk (h5 e).1
theorem StE.appW{cp:FuncId→Option CF}{z:List Value}{t o d m:Nat}{sp:Option Nat}{L:List Nat}{X:List Value}{R:Value→Heap→Prop}(h:StE lo nb xb G H n x w q W Pt)(ht:H.get t=some X)(hX:(X.drop o).take d=uN L)(hd:0<d∧d≤1000000)(hL:L.length=d)(hoX:o+d≤X.length)(hW:W.length≤1000000)
  (k:∀w' H',StE lo nb xb G H' n x w' q (W++L) Pt→H.length≤H'.length→R w' H'):wpH cp lo (.app 1 z) [w,.slice (some ⟨t,o,sp⟩) d m] H R:=by
 obtain⟨bw,bq,g1,⟨g2,g3⟩,g4,g5,g6⟩:=h.tw
 have hlo:=h.lb
 have hx:=h.ext.1
 have hnl:=Heap.get_lt h.gn
 have hxl:=Heap.get_lt h.gx
 have hnn:=h.nn
 obtain⟨b0,hb0,hb1,hb2⟩:∃b0,Own lo 1 H w b0 (uN W)∧(W=[]→b0=H.length+1)∧(W≠[]→b0=bw):=by
  by_cases e:W=[]
  ·subst e
   rw[own_nilv g2]
   exact⟨H.length+1,Own.nil (by omega),fun _=>rfl,fun e=>absurd rfl e⟩
  ·exact⟨bw,g2,fun h=>absurd h e,fun _=>rfl⟩
 refine wpH_app hb0 (by omega) (by omega) hd.1 (by simp only[List.length_map];omega) ht (by omega) (c:=uN L) (by rw[Nat.mul_one];exact hX) (oneN L) ?_
 intro v' H' ho' hk hl
 refine k v' H' ⟨?_,?_,?_,hlo,hnn,H.length,bq,⟨by omega,g1.2⟩,⟨by rw[uN,List.map_append];exact ho',?_⟩,fun _=>⟨by omega,by omega⟩,g5,fun _ e=>?_⟩ (by omega)
 ·refine hk.ext h.ext ?_
  by_cases e:W=[]
  ·rw[hb1 e];omega
  ·rw[hb2 e];exact g1.1
 ·refine hk.get h.gn ?_
  by_cases e:W=[]
  ·rw[hb1 e];omega
  ·rw[hb2 e];exact fun a=>(g4 e).1 a.symm
 ·refine hk.get h.gx ?_
  by_cases e:W=[]
  ·rw[hb1 e];omega
  ·rw[hb2 e];exact fun a=>(g4 e).2 a.symm
 ·by_cases e2:Pt=[]
  ·subst e2
   rw[own_nilv g3]
   exact Own.nil g3.1
  ·refine g3.keep hk ?_
   have:=own_in g3 e2
   by_cases e:W=[]
   ·rw[hb1 e];omega
   ·rw[hb2 e];exact fun a=>g6 e e2 a.symm
 ·have:=own_in g3 e
  omega
theorem StE.litW{cp:FuncId→Option CF}{z:List Value}{d:Nat}{L:List Nat}{R:Value→Heap→Prop}(h:StE lo nb xb G H n x w q W Pt)(hL:L.length=d)(hd:0<d∧d≤1000000)(hW:W.length≤1000000)
  (k:∀w' H',StE lo nb xb G H' n x w' q (W++L) Pt→H.length≤H'.length→R w' H'):wpH cp lo (.app 1 z) [w,.slice (some ⟨H.length,0,none⟩) d d] (H++[some (uN L)]) R:=by
 refine(h.mono (Ext.app _ _)).appW (L:=L) get_app0 (by rw[List.drop_zero,List.take_of_length_le (by simp;omega)]) hd hL (by simp;omega) hW ?_
 intro w' H' h' hl
 exact k w' H' h' (by simp at hl;omega)
theorem StE.litP{cp:FuncId→Option CF}{z:List Value}{d:Nat}{L:List Nat}{R:Value→Heap→Prop}(h:StE lo nb xb G H n x w q W Pt)(hL:L.length=d)(hd:0<d∧d≤1000000)(hW:Pt.length≤1000000)
  (k:∀q' H',StE lo nb xb G H' n x w q' W (Pt++L)→H.length≤H'.length→R q' H'):wpH cp lo (.app 1 z) [q,.slice (some ⟨H.length,0,none⟩) d d] (H++[some (uN L)]) R:=
 h.swap.litW hL hd hW fun w' H' h' hl=>k w' H' h'.swap hl
structure HdE (lo nb:Nat)(G H:Heap)(n:RN)(w q:Value)(W Pt:List Nat):Prop where
 ext:Ext G H
 gn:H.get nb=some (rnC n)
 lb:lo≤G.length
 nn:G.length≤nb
 tw:∃bw bq,(G.length≤bw∧G.length≤bq)∧(Own lo 1 H w bw (uN W)∧Own lo 1 H q bq (uN Pt))∧(W≠[]→bw≠nb)∧(Pt≠[]→bq≠nb)∧(W≠[]→Pt≠[]→bw≠bq)
theorem HdE.st{H':Heap}(h:HdE lo nb G H n w q W Pt)(e:Ext H H')(h2:H'.get xb=some (rsC x))(hx:H.length≤xb):StE lo nb xb G H' n x w q W Pt:=by
 obtain⟨bw,bq,g1,⟨g2,g3⟩,g4,g5,g6⟩:=h.tw
 have:=h.nn
 have:=h.ext.1
 have:=Heap.get_lt h.gn
 refine⟨h.ext.trans e,e.get h.gn,h2,h.lb,⟨by omega,by omega,by omega⟩,bw,bq,g1,⟨g2.mono e,g3.mono e⟩,fun a=>?_,fun a=>?_,g6⟩
 ·have:=own_in g2 a
  have:=g4 a
  omega
 ·have:=own_in g3 a
  have:=g5 a
  omega
theorem StE.hd{H':Heap}{nb':Nat}{n':RN}(h:StE lo nb xb G H n x w q W Pt)(e:Ext H H')(h1:H'.get nb'=some (rnC n'))(hn:H.length≤nb'):HdE lo nb' G H' n' w q W Pt:=by
 obtain⟨bw,bq,g1,⟨g2,g3⟩,g4,g5,g6⟩:=h.tw
 have:=h.ext.1
 refine⟨h.ext.trans e,h1,h.lb,by omega,bw,bq,g1,⟨g2.mono e,g3.mono e⟩,fun a=>?_,fun a=>?_,g6⟩
 ·have:=own_in g2 a
  omega
 ·have:=own_in g3 a
  omega
theorem HdE.start(hlo:lo≤H.length):HdE lo H.length H (H++[some (rnC n)]) n (.slice none 0 0) (.slice none 0 0) [] []:=
 ⟨Ext.app _ _,get_app0,hlo,Nat.le_refl _,H.length,H.length,⟨Nat.le_refl _,Nat.le_refl _⟩,⟨Own.nil hlo,Own.nil hlo⟩,fun e=>absurd rfl e,fun e=>absurd rfl e,fun e=>absurd rfl e⟩
end
end Go.Proofs.Ythnflhimcmdnbaa
namespace Go.Proofs.Ythnflhimcmdnbaa
open Go.Abs
set_option linter.unusedSimpArgs false
set_option linter.unusedVariables false
set_option maxRecDepth 20000
section
variable {lo:Nat}{H:Heap}{v:Value}{p:List UInt8}
set_option maxHeartbeats 3200000 in
theorem encRP(hp:SlU H v p)(hl:p.length≤4096)(hlo:lo≤H.length):Ev cp lo 11 [v] H (fun r H'=>Ext H H'∧∃C w b,SolR p C∧r=.tuple #[w,encN 0]∧H.length≤b∧Own lo 1 H' w b (uN (encR p C (mea C (asR 0)+1) (asR 0) [] []))):=by
 obtain⟨ad,c,ev⟩:=hp.len
 subst ev
 refine st11 ?_;unfold bd11 cf11;simp only[kB,ctlB]
 repeat' ((first|refine xSDg ?_|refine xODg rfl ?_);(try simp only[ctlB]))
 refine xCDg (fun h=>?_) (fun h=>?_)
 ·exfalso;simp at h;omega
 clear h
 (try simp only[ctlB])
 refine xHDg ?_
 refine wpH_call0 (costsP (lo:=lo) hp hl hlo) ?_
 rintro r H1 ⟨hx1,C,hNew,rfl,hco⟩
 have hsol:=newB_sol hNew
 clear hNew
 have hl1:=hx1.1
 have hkl1:=Heap.get_lt hco.c
 have hinv:=inv_start hsol hl
 obtain⟨R0,hR0⟩:∃R0,False∨encR p C (mea C (asR 0)+1) (asR 0) [] []=R0:=⟨_,.inr rfl⟩
 obtain⟨f0,hf0⟩:∃f0,f0=mea C (asR 0)+1:=⟨_,rfl⟩
 have hR00:=hR0
 rw[←hf0]at hR0
 have hf1:mea C (asR 0)<f0:=by omega
 (try simp only[ctlB])
 repeat' ((first|refine xSDg ?_|refine xODg rfl ?_);(try simp only[ctlB]))
 have hd0:HdE lo H1.length H1 (H1++[some (rnC (asR 0))]) (asR 0) (.slice none 0 0) (.slice none 0 0) [] []:=HdE.start (by omega)
 change wpS cp lo _ _ _ (H1++[some (rnC (asR 0))])
 generalize H1++[some (rnC (asR 0))]=H2 at hd0
 refine aw_loop' (fun m S H'=>∃nb n w q W Pt,((HdE lo nb H1 H' n w q W Pt∧InvR p C 70000 n W Pt)∧mea C n<m∧(False∨encR p C m n W Pt=R0))∧∃(z:Nat→Value),S=[.slice ad p.length c,z 1,z 2,coV H.length p,w,q,ptr nb,z 7,z 8,z 9,z 10,z 11,z 12,z 13,z 14,z 15,z 16,z 17,z 18,z 19,z 20,z 21,z 22,z 23,z 24,z 25,z 26,z 27,z 28,z 29,z 30,z 31,z 32,z 33,z 34,z 35,z 36,z 37,z 38,z 39,z 40,z 41,z 42,z 43,z 44,z 45,z 46,z 47,z 48,z 49]) f0 ⟨H1.length,asR 0,_,_,[],[],⟨⟨hd0,hinv⟩,hf1,hR0⟩,exZDe rfl⟩ ?_
 clear hd0 hinv hf1 hR0 hf0
 rintro m S H3 ⟨nb,n,w,q,W,Pt,⟨⟨hd,hi⟩,hm,hR⟩,z,rfl⟩
 obtain⟨m,rfl⟩:∃m',m=m'+1:=⟨m-1,by omega⟩
 have hxd:=hd.ext
 have hn0:=hd.nn
 have hld:=hxd.1
 have hn1:=hi.ok.i
 have hn2:=hi.ok.m
 have hgn:H3.get nb=some [encN n.i,encN n.m,encN n.ph,encN n.s,.bool n.u]:=hd.gn
 by_cases he:endR p n
 ·have he1:n.m≤0∧p.length≤n.i:=by unfold endR at he;omega
  have hRW:encR p C (m+1) n W Pt=W:=by
   show(if n.m≠0∨n.i<p.length then _ else W)=W
   rw[if_neg (by omega)]
  rw[hRW]at hR
  have d1:decide ((n.m:Int)≠0)=false:=decide_eq_false (by omega)
  have d2:decide ((n.i:Int)<(p.length:Nat))=false:=decide_eq_false (by omega)
  clear hRW
  obtain⟨bw,bq,g1,⟨g2,g3⟩,g4,g5,g6⟩:=hd.tw
  clear hi hm
  (try simp only[ctlB])
  refine xCDg (fun h=>?_) (fun h=>?_)
  ·exfalso;first|cases h|(simp at h;done)|(simp at h;omega)
  ·clear h
   (try simp only[ctlB])
   repeat' ((first|refine xSDg ?_|refine xODg rfl ?_);(try simp only[ctlB]))
   refine xRDg ?_
   refine⟨hx1.trans hxd,C,w,bw,hsol,rfl,by omega,?_⟩
   have e1:W=R0:=hR.resolve_left id
   have e2:encR p C (mea C (asR 0)+1) (asR 0) [] []=R0:=hR00.resolve_left id
   rw[e2,←e1]
   exact g2
 ·have hcc:(!decide ((n.m:Int)=0) || decide ((n.i:Int)<(p.length:Nat)))=true:=by
   have:¬ (n.m=0∧n.i=p.length):=he
   by_cases e:n.m=0
   ·have:n.i<p.length:=by omega
    rw[decide_eq_true (p:=(n.i:Int)<(p.length:Nat)) (by omega)];simp
   ·rw[decide_eq_false (p:=(n.m:Int)=0) (by omega)];rfl
  have hRW:encR p C (m+1) n W Pt=encR p C m (choR p n C).to (emitR p n (choR p n C) W Pt).1 (emitR p n (choR p n C) W Pt).2:=by
   have:¬ (n.m=0∧n.i=p.length):=he
   show(if n.m≠0∨n.i<p.length then _ else W)=_
   rw[if_pos (by omega)]
  rw[hRW]at hR
  clear hRW
  obtain⟨hx,ht,_⟩:=cho_ok hsol hi.ok hi.fin he
  have hmm:=(step_mea hi.ok hx ht).1
  have hinv:=inv_step hi hx ht
  have hxok:=stepsR_ok hi.ok _ hx
  have hco3:=hco.ext hxd
  clear hR00
  (try simp only[ctlB])
  refine xCDg (fun h=>?_) (fun h=>?_)
  ·clear h
   (try simp only[ctlB])
   refine xHDg ?_
   refine wpH_call0 (choiceP (n:=n) hco3 hi.ok (by omega)) ?_
   rintro r H4 ⟨hx4,rfl⟩
   generalize choR p n C=x at hx ht hmm hinv hxok hR ⊢
   have hl4:=hx4.1
   (try simp only[ctlB])
   repeat' ((first|refine xSDg ?_|refine xODg rfl ?_);(try simp only[ctlB]))
   have hst:StE lo nb H4.length H1 (H4++[some (rsC x)]) n x w q W Pt:=hd.st (hx4.trans (Ext.app _ _)) get_app0 hl4
   change wpS cp lo _ _ _ (H4++[some (rsC x)])
   generalize H4.length=xb at hst
   generalize H4++[some (rsC x)]=H5 at hst
   clear hd hgn hxd hld hx4 hl4 hco3 hcc
   refine aw_midXB (fun S' H'=>∃w q,StE lo nb xb H1 H' n x w q (emitR p n x W Pt).1 (emitR p n x W Pt).2∧∃(z:Nat→Value),S'=[.slice ad p.length c,z 1,z 2,coV H.length p,w,q,ptr nb,ptr xb,z 8,z 9,z 10,z 11,z 12,z 13,z 14,z 15,z 16,z 17,z 18,z 19,z 20,z 21,z 22,z 23,z 24,z 25,z 26,z 27,z 28,z 29,z 30,z 31,z 32,z 33,z 34,z 35,z 36,z 37,z 38,z 39,z 40,z 41,z 42,z 43,z 44,z 45,z 46,z 47,z 48,z 49]) ?_ ?_
   ·have hWl:W.length≤70000∧Pt.length≤70000:=by have:=hi.sz;omega
    obtain⟨hWl,hPl⟩:=hWl
    have hgx:H5.get xb=some [encN x.w,.int .i64 x.s,.int .i64 x.t,encN x.c,encN x.to.i,encN x.to.m,encN x.to.ph,encN x.to.s,.bool x.to.u]:=hst.gx
    have hgn:H5.get nb=some [encN n.i,encN n.m,encN n.ph,encN n.s,.bool n.u]:=hst.gn
    have hpv:=hp.mono (hx1.trans hst.ext)
    clear hR hinv hmm ht
    unfold stepsR at hx
    unfold emitR
    by_cases hm0:n.m=0
    ·rw[if_pos hm0]at hx
     simp only[if_pos hm0]
     have dm0:decide ((n.m:Int)=0)=true:=decide_eq_true (by omega)
     replace hm0:n.m≤0:=by omega
     rcases startsR_cases hi.ok hx with ⟨d,hd,hdl,hrun⟩|⟨hw,hxt,hph,hs⟩
     ·obtain⟨s1,hs1,hs1l⟩:∃s1:Nat,x.s=(s1:Int)∧s1≤2000:=by
       rw[hrun];unfold runR
       split
       ·exact⟨d,rfl,by omega⟩
       ·exact⟨d/250+249,rfl,by omega⟩
      have ht1:x.t=-1∨∃t1:Nat,x.t=(t1:Int)∧t1≤2000:=by
       rw[hrun];unfold runR
       split
       ·exact .inl rfl
       ·exact .inr ⟨d%250,rfl,by omega⟩
      have hw:x.w=231:=by rw[hrun];unfold runR;split<;>rfl
      have hti:x.to.i=n.i+d:=by rw[hrun];unfold runR;split<;>rfl
      have hdd:x.to.i-n.i=d:=by omega
      rw[if_pos hw,hdd]
      have hse:∀W,secR x W=W++[(s1+msk W.length)%256]:=fun W=>by unfold secR;rw[hs1,Int.toNat_natCast]
      have hte:∀W,(x.t=-1∧thiR x W=W)∨∃t1:Nat,(x.t=(t1:Int)∧t1≤2000)∧thiR x W=W++[(t1+msk W.length)%256]:=fun W=>by
       unfold thiR
       rcases ht1 with h|⟨t1,h,h2⟩
       ·exact .inl ⟨h,by rw[if_neg (by omega)]⟩
       ·exact .inr ⟨t1,⟨h,h2⟩,by rw[if_pos (by omega),h,Int.toNat_natCast]⟩
      replace hse:False∨_:=.inr hse
      replace hte:False∨_:=.inr hte
      clear hrun hdd ht1 hx
      have dw:decide ((x.w:Int)=231)=true:=decide_eq_true (by omega)
      obtain⟨xw,xs,xt,xc,xto⟩:=x
      simp only at hw hs1 hti hgx dw
      subst hs1
      replace hti:xto.i≤n.i+d∧n.i+d≤xto.i:=by omega
      replace hw:False∨xw=231:=.inr hw
      refine xCDg (fun h=>?_) (fun h=>?_)
      ·clear h dw dm0
       (try simp only[ctlB])
       repeat' ((first|refine xSDg ?_|refine xODg rfl ?_);(try simp only[ctlB]))
       change wpS cp lo _ _ _ (H5++[some (uN [231])])
       refine xHDg ?_
       refine hst.litW (L:=[231]) rfl (by omega) (by omega) ?_
       intro w6 H6 hst6 hl6
       clear hgx hgn hpv
       have hgx:H6.get xb=some [encN xw,encN s1,.int .i64 xt,encN xc,encN xto.i,encN xto.m,encN xto.ph,encN xto.s,.bool xto.u]:=hst6.gx
       obtain⟨aw6,rfl⟩:=hst6.sl
       have hW6:(W++[231]).length≤70001:=by rw[List.length_append,List.length_singleton];omega
       generalize W++[231]=W6 at hst6 hW6 ⊢
       rw[hse.resolve_left id]
       (try simp only[ctlB])
       repeat' ((first|refine xSDg ?_|refine xODg rfl ?_);(try simp only[ctlB]))
       refine xHDg ?_
       refine wpH_call0 (baseP (x:=s1) (k:=W6.length) (by omega) (by omega)) ?_
       rintro r H7 ⟨rfl,rfl⟩
       have hmb:(s1+msk W6.length)%256<256:=Nat.mod_lt _ (by omega)
       generalize (s1+msk W6.length)%256=r1 at hmb ⊢
       (try simp only[ctlB])
       repeat' ((first|refine xSDg ?_|refine xODg rfl ?_);(try simp only[ctlB]))
       change wpS cp lo _ _ _ (H6++[some (uN [r1])])
       refine xHDg ?_
       refine hst6.litW (L:=[r1]) rfl (by omega) (by omega) ?_
       intro w7 H7 hst7 hl7
       have hW7:(W6++[r1]).length≤70002:=by rw[List.length_append,List.length_singleton];omega
       generalize W6++[r1]=W7 at hst7 hW7 ⊢
       clear hgx hst6 hse hW6
       have hgx:H7.get xb=some [encN xw,encN s1,.int .i64 xt,encN xc,encN xto.i,encN xto.m,encN xto.ph,encN xto.s,.bool xto.u]:=hst7.gx
       (try simp only[ctlB])
       repeat' ((first|refine xSDg ?_|refine xODg rfl ?_);(try simp only[ctlB]))
       refine aw_midX (fun S' H'=>∃w q,StE lo nb xb H1 H' n ⟨xw,s1,xt,xc,xto⟩ w q (thiR ⟨xw,s1,xt,xc,xto⟩ W7) Pt∧∃(z:Nat→Value),S'=[.slice ad p.length c,z 1,z 2,coV H.length p,w,q,ptr nb,ptr xb,z 8,z 9,z 10,z 11,z 12,z 13,z 14,z 15,z 16,z 17,z 18,z 19,z 20,z 21,z 22,z 23,z 24,z 25,z 26,z 27,z 28,z 29,z 30,z 31,z 32,z 33,z 34,z 35,z 36,z 37,z 38,z 39,z 40,z 41,z 42,z 43,z 44,z 45,z 46,z 47,z 48,z 49]) ?_ ?_
       ·rcases hte.resolve_left id W7 with ⟨hxt,hthi⟩|⟨t1,⟨hxt,ht1⟩,hthi⟩
        ·rw[hthi]
         clear hte hthi
         have dd:decide (xt≥0)=false:=decide_eq_false (by simp only at hxt;omega)
         clear hxt
         refine xCDg (fun h=>?_) (fun h=>?_)
         ·exfalso;first|cases h|(simp at h;done)
         ·(try simp only[ctlB])
          exact⟨_,_,hst7,exZDe (by first|rfl|(simp only[Int.natCast_add,Int.natCast_one];rfl)|simp only[Int.natCast_add,Int.natCast_one])⟩
        ·rw[hthi]
         clear hte hthi
         simp only at hxt
         subst hxt
         have dd:decide ((t1:Int)≥0)=true:=decide_eq_true (by omega)
         refine xCDg (fun h=>?_) (fun h=>?_)
         ·clear h dd
          obtain⟨aw7,rfl⟩:=hst7.sl
          (try simp only[ctlB])
          repeat' ((first|refine xSDg ?_|refine xODg rfl ?_);(try simp only[ctlB]))
          refine xHDg ?_
          refine wpH_call0 (baseP (x:=t1) (k:=W7.length) (by omega) (by omega)) ?_
          rintro r H8 ⟨rfl,rfl⟩
          generalize (t1+msk W7.length)%256=r1
          (try simp only[ctlB])
          repeat' ((first|refine xSDg ?_|refine xODg rfl ?_);(try simp only[ctlB]))
          change wpS cp lo _ _ _ (H7++[some (uN [r1])])
          refine xHDg ?_
          refine hst7.litW (L:=[r1]) rfl (by omega) (by omega) ?_
          intro w8 H8 hst8 hl8
          (try simp only[ctlB])
          repeat' ((first|refine xSDg ?_|refine xODg rfl ?_);(try simp only[ctlB]))
          exact⟨_,_,hst8,exZDe (by first|rfl|(simp only[Int.natCast_add,Int.natCast_one];rfl)|simp only[Int.natCast_add,Int.natCast_one])⟩
         ·exfalso;first|cases h|(simp at h;done)
       clear hst7 hgx hst hl6 hl7
       rintro S' H8 ⟨w,q,hst8,z,rfl⟩
       have hW8:(thiR ⟨xw,s1,xt,xc,xto⟩ W7).length≤70010:=by
        unfold thiR
        split
        ·rw[List.length_append,List.length_singleton];omega
        ·omega
       generalize thiR ⟨xw,s1,xt,xc,xto⟩ W7=W8 at hst8 hW8 ⊢
       clear hte
       have hgn:H8.get nb=some [encN n.i,encN n.m,encN n.ph,encN n.s,.bool n.u]:=hst8.gn
       (try simp only[ctlB])
       repeat' ((first|refine xSDg ?_|refine xODg rfl ?_);(try simp only[ctlB]))
       refine aw_for (fun k S H'=>∃w q,StE lo nb xb H1 H' n ⟨xw,s1,xt,xc,xto⟩ w q (runZ p W8 n.i k) Pt∧∃(z:Nat→Value),S=[.slice ad p.length c,z 1,z 2,coV H.length p,w,q,ptr nb,ptr xb,.int .i64 ((n.i:Int)+(k:Nat)),z 9,z 10,z 11,z 12,z 13,z 14,z 15,z 16,z 17,z 18,z 19,z 20,z 21,z 22,z 23,z 24,z 25,z 26,z 27,z 28,z 29,z 30,z 31,z 32,z 33,z 34,z 35,z 36,z 37,z 38,z 39,z 40,z 41,z 42,z 43,z 44,z 45,z 46,z 47,z 48,z 49]) d ⟨w,q,hst8,exZDe (by simp)⟩ ?_ ?_ ?_
       ·rintro k S H' hk ⟨w,q,hst9,z,rfl⟩
        have hgx:H'.get xb=some [encN xw,encN s1,.int .i64 xt,encN xc,encN xto.i,encN xto.m,encN xto.ph,encN xto.s,.bool xto.u]:=hst9.gx
        exact⟨decide ((n.i:Int)+(k:Nat)<(xto.i:Nat)),by simp(disch:=first|omega|(simp only[lenB];omega))only[evB,xBDc,Nat.reduceAdd,Nat.reduceBEq,Int.reduceToNat, *],by simp;omega⟩
       ·rintro k S H9 hk ⟨w,q,hst9,z,rfl⟩
        have hlz:=runZ_len p W8 n.i k
        replace hlz:(runZ p W8 n.i k).length≤72000:=by omega
        have hrs:runZ p W8 n.i (k+1)=runZ p W8 n.i k++[(by' p (n.i+k)+msk (runZ p W8 n.i k).length)%256]:=rfl
        rw[hrs]
        clear hrs hst8 hW8 hgn
        generalize runZ p W8 n.i k=W9 at hst9 hlz ⊢
        obtain⟨bb,oo,xs,hia,hgx,hxx⟩:=sl_at (hp.mono (hx1.trans hst9.ext)) (k:=n.i+k) (by omega)
        have hby:=(p.getD (n.i+k) 0).toNat_lt
        replace hxx:xs[oo]?=some (.int .u8 ((p.getD (n.i+k) 0).toNat:Nat)):=hxx
        have hbe:by' p (n.i+k)=(p.getD (n.i+k) 0).toNat:=rfl
        rw[hbe]
        clear hbe
        generalize (p.getD (n.i+k) 0).toNat=y at hxx hby ⊢
        simp only[Int.natCast_add]at hia
        obtain⟨aw9,rfl⟩:=hst9.sl
        (try simp only[ctlB])
        repeat' ((first|refine xSDg ?_|refine xODg rfl ?_);(try simp only[ctlB]))
        refine xHDg ?_
        refine wpH_call0 (baseP (x:=y) (k:=W9.length) (by omega) (by omega)) ?_
        rintro r H10 ⟨rfl,rfl⟩
        generalize (y+msk W9.length)%256=r1
        (try simp only[ctlB])
        repeat' ((first|refine xSDg ?_|refine xODg rfl ?_);(try simp only[ctlB]))
        change wpS cp lo _ _ _ (H9++[some (uN [r1])])
        refine xHDg ?_
        refine hst9.litW (L:=[r1]) rfl (by omega) (by omega) ?_
        intro w10 H10 hst10 hl10
        (try simp only[ctlB])
        repeat' ((first|refine xSDg ?_|refine xODg rfl ?_);(try simp only[ctlB]))
        exact⟨_,_,hst10,exZDe (by first|rfl|(simp only[Int.natCast_add,Int.natCast_one];rfl)|simp only[Int.natCast_add,Int.natCast_one])⟩
       ·rintro S H9 ⟨w,q,hst9,z,rfl⟩
        (try simp only[ctlB])
        exact⟨_,_,hst9,exZDe (by first|rfl|(simp only[Int.natCast_add,Int.natCast_one];rfl)|simp only[Int.natCast_add,Int.natCast_one])⟩
      ·exfalso;first|cases h|(simp at h;done)
     ·rw[if_neg hw]
      have dw:decide ((x.w:Int)=231)=false:=decide_eq_false (by omega)
      have hxw:=hxok.w
      clear hx hxt hph hxok
      refine xCDg (fun h=>?_) (fun h=>?_)
      ·exfalso;first|cases h|(simp at h;done)
      clear h
      (try simp only[ctlB])
      refine xCDg (fun h=>?_) (fun h=>?_)
      ·clear h dw dm0
       (try simp only[ctlB])
       repeat' ((first|refine xSDg ?_|refine xODg rfl ?_);(try simp only[ctlB]))
       change wpS cp lo _ _ _ (H5++[some (uN [x.w])])
       refine xHDg ?_
       refine hst.litW (L:=[x.w]) rfl (by omega) (by omega) ?_
       intro w6 H6 hst6 hl6
       clear hgx hgn
       have hgx:H6.get xb=some [encN x.w,.int .i64 x.s,.int .i64 x.t,encN x.c,encN x.to.i,encN x.to.m,encN x.to.ph,encN x.to.s,.bool x.to.u]:=hst6.gx
       rcases hs with ⟨hs,_⟩|⟨ds,hds,hs,_⟩
       ·have dd:decide (x.s≥0)=false:=decide_eq_false (by omega)
        rw[if_neg (by omega),List.append_nil]
        replace hs:False∨x.s=-1:=.inr hs
        (try simp only[ctlB])
        repeat' ((first|refine xSDg ?_|refine xODg rfl ?_);(try simp only[ctlB]))
        refine xCDg (fun h=>?_) (fun h=>?_)
        ·exfalso;first|cases h|(simp at h;done)
        ·(try simp only[ctlB])
         exact⟨_,_,hst6,exZDe (by first|rfl|(simp only[Int.natCast_add,Int.natCast_one];rfl)|simp only[Int.natCast_add,Int.natCast_one])⟩
       ·have dd:decide (x.s≥0)=true:=decide_eq_true (by omega)
        have htn:x.s.toNat=ds:=by omega
        rw[if_pos (by omega),htn]
        clear htn
        obtain⟨xw,xs,xt,xc,xto⟩:=x
        simp only at hs hgx hst6 dd ⊢
        subst hs
        (try simp only[ctlB])
        repeat' ((first|refine xSDg ?_|refine xODg rfl ?_);(try simp only[ctlB]))
        refine xCDg (fun h=>?_) (fun h=>?_)
        ·clear h dd
         (try simp only[ctlB])
         repeat' ((first|refine xSDg ?_|refine xODg rfl ?_);(try simp only[ctlB]))
         change wpS cp lo _ _ _ (H6++[some (uN [ds])])
         refine xHDg ?_
         refine hst6.litW (L:=[ds]) rfl (by omega) (by rw[List.length_append,List.length_singleton];omega) ?_
         intro w7 H7 hst7 hl7
         (try simp only[ctlB])
         repeat' ((first|refine xSDg ?_|refine xODg rfl ?_);(try simp only[ctlB]))
         exact⟨_,_,hst7,exZDe (by first|rfl|(simp only[Int.natCast_add,Int.natCast_one];rfl)|simp only[Int.natCast_add,Int.natCast_one])⟩
        ·exfalso;first|cases h|(simp at h;done)
      ·exfalso;simp at h
    have dm0:decide ((n.m:Int)=0)=false:=decide_eq_false (by omega)
    rw[if_neg hm0]at hx
    simp only[if_neg hm0]
    refine xCDg (fun h=>?_) (fun h=>?_)
    ·exfalso;first|cases h|(simp at h;done)
    clear h
    (try simp only[ctlB])
    refine xCDg (fun h=>?_) (fun h=>?_)
    ·exfalso;first|cases h|(simp at h;done)
    clear h dm0
    (try simp only[ctlB])
    by_cases hm4:n.m=4
    ·rw[if_neg (by omega)]at hx
     simp only[if_pos hm4]
     have dm4:decide ((n.m:Int)=4)=true:=decide_eq_true (by omega)
     have hpt:=hi.ptv
     have hxw:x.w<64:=by
      rcases(edisR_cases hx).2 with rfl|⟨_,rfl⟩
      ·exact(by decide:31<64)
      ·simp only;omega
     replace hm4:n.m≤4∧4≤n.m:=by omega
     clear hx hm0
     refine xCDg (fun h=>?_) (fun h=>?_)
     ·clear h dm4
      (try simp only[ctlB])
      repeat' ((first|refine xSDg ?_|refine xODg rfl ?_);(try simp only[ctlB]))
      change wpS cp lo _ _ _ (H5++[some (uN [x.w])])
      refine xHDg ?_
      refine hst.litP (L:=[x.w]) rfl (by omega) (by omega) ?_
      intro q6 H6 hst6 hl6
      have hP6:(Pt++[x.w]).length≤70001∧1≤(Pt++[x.w]).length:=by rw[List.length_append,List.length_singleton];omega
      have hpt6:=getD_snoc hpt hxw
      clear hgx hgn
      have hgx:H6.get xb=some [encN x.w,.int .i64 x.s,.int .i64 x.t,encN x.c,encN x.to.i,encN x.to.m,encN x.to.ph,encN x.to.s,.bool x.to.u]:=hst6.gx
      by_cases hw:x.w=31
      ·have dw:decide ((x.w:Int)=31)=true:=decide_eq_true (by omega)
       have hrp:(if x.w=31 then(W++packR (Pt++[31]),([]:List Nat)) else(W,Pt++[x.w]))=(W++packR (Pt++[x.w]),[]):=by rw[if_pos hw,hw]
       rw[hrp]
       clear hrp
       generalize Pt++[x.w]=P6 at hst6 hP6 hpt6 ⊢
       replace hw:x.w≤31∧31≤x.w:=by omega
       obtain⟨bw6,bq6,g1,⟨g2,g3⟩,g4⟩:=hst6.tw
       (try simp only[ctlB])
       repeat' ((first|refine xSDg ?_|refine xODg rfl ?_);(try simp only[ctlB]))
       refine xCDg (fun h=>?_) (fun h=>?_)
       ·clear h dw
        (try simp only[ctlB])
        refine xHDg ?_
        refine wpH_call0 (packedP (lo:=lo) g3 (by omega) hpt6 (by have:=hst6.lb;have:=hst6.ext.1;omega)) ?_
        rintro r H7 ⟨hx7,rfl,hg7⟩
        clear g1 g2 g3 g4
        have hst7:=hst6.mono hx7
        have hpk:=packR_len P6
        (try simp only[ctlB])
        repeat' ((first|refine xSDg ?_|refine xODg rfl ?_);(try simp only[ctlB]))
        refine xHDg ?_
        refine hst7.appW (L:=packR P6) hg7 (by rw[List.drop_zero,List.take_of_length_le (by simp;omega)]) (by omega) hpk (by simp;omega) (by omega) ?_
        intro w8 H8 hst8 hl8
        (try simp only[ctlB])
        repeat' ((first|refine xSDg ?_|refine xODg rfl ?_);(try simp only[ctlB]))
        exact⟨_,_,hst8.nil,exZDe (by first|rfl|(simp only[Int.natCast_add,Int.natCast_one];rfl)|simp only[Int.natCast_add,Int.natCast_one])⟩
       ·exfalso;first|cases h|(simp at h;done)
      ·have dw:decide ((x.w:Int)=31)=false:=decide_eq_false (by omega)
       rw[if_neg hw]
       (try simp only[ctlB])
       repeat' ((first|refine xSDg ?_|refine xODg rfl ?_);(try simp only[ctlB]))
       refine xCDg (fun h=>?_) (fun h=>?_)
       ·exfalso;first|cases h|(simp at h;done)
       ·(try simp only[ctlB])
        exact⟨_,_,hst6,exZDe (by first|rfl|(simp only[Int.natCast_add,Int.natCast_one];rfl)|simp only[Int.natCast_add,Int.natCast_one])⟩
     ·exfalso;first|cases h|(simp at h;done)
    have dm4:decide ((n.m:Int)=4)=false:=decide_eq_false (by omega)
    rw[if_pos hm4]at hx
    simp only[if_neg hm4]
    have hp3:=hi.pt3 (by omega)
    have hph:=hi.ok.ph.2.1 hm4
    have hpt:=hi.ptv
    have hxw:x.w≤254:=by
     rcases unitL_cases 40 (by omega) hx with ⟨rfl,_⟩|⟨v,t,hv,hu,rfl⟩
     ·exact Nat.le_refl _
     ·simp only;omega
    clear hx
    refine xCDg (fun h=>?_) (fun h=>?_)
    ·exfalso;first|cases h|(simp at h;done)
    clear h dm4
    by_cases hw:x.w=254
    ·have dw:decide ((x.w:Int)=254)=true:=decide_eq_true (by omega)
     rw[if_pos hw]
     replace hw:x.w≤254∧254≤x.w:=by omega
     (try simp only[ctlB])
     refine xCDg (fun h=>?_) (fun h=>?_)
     ·clear h dw
      (try simp only[ctlB])
      repeat' ((first|refine xSDg ?_|refine xODg rfl ?_);(try simp only[ctlB]))
      change wpS cp lo _ _ _ (H5++[some (uN [254])])
      refine xHDg ?_
      refine hst.litW (L:=[254]) rfl (by omega) (by omega) ?_
      intro w6 H6 hst6 hl6
      (try simp only[ctlB])
      repeat' ((first|refine xSDg ?_|refine xODg rfl ?_);(try simp only[ctlB]))
      exact⟨_,_,hst6,exZDe (by first|rfl|(simp only[Int.natCast_add,Int.natCast_one];rfl)|simp only[Int.natCast_add,Int.natCast_one])⟩
     ·exfalso;first|cases h|(simp at h;done)
    have dw:decide ((x.w:Int)=254)=false:=decide_eq_false (by omega)
    rw[if_neg hw]
    (try simp only[ctlB])
    refine xCDg (fun h=>?_) (fun h=>?_)
    ·exfalso;first|cases h|(simp at h;done)
    clear h dw
    (try simp only[ctlB])
    repeat' ((first|refine xSDg ?_|refine xODg rfl ?_);(try simp only[ctlB]))
    change wpS cp lo _ _ _ (H5++[some (uN [x.w])])
    refine xHDg ?_
    refine hst.litP (L:=[x.w]) rfl (by omega) (by omega) ?_
    intro q6 H6 hst6 hl6
    clear hgx hgn hpv
    by_cases h2:Pt.length=2
    ·rw[if_pos h2]
     obtain⟨u,v,rfl⟩:∃u v,Pt=[u,v]:=by
      match Pt,h2 with
      | [u,v],_=>exact⟨u,v,rfl⟩
     have hu:=hpt 0
     have hv:=hpt 1
     simp only[List.getD_cons_zero,List.getD_cons_succ]at hu hv
     have htr:trR [u,v] x.w=1600*u+40*v+x.w+1:=rfl
     rw[htr]
     clear htr
     obtain⟨aq6,hq6,hgq⟩:∃b,q6=.slice (some ⟨b,0,some 1⟩) 3 3∧H6.get b=some (uN [u,v,x.w]):=by
      obtain⟨bw6,bq6,g1,⟨g2,g3⟩,g4⟩:=hst6.tw
      obtain⟨_,⟨_,h⟩|⟨k,h0,h1,h2,hg⟩⟩:=g3
      ·simp at h
      ·have:k=3:=by simpa using h1
       subst this
       exact⟨bq6,h2,hg⟩
     subst hq6
     replace hgq:H6.get aq6=some [encN u,encN v,encN x.w]:=hgq
     have e1:1600*(u:Int)+40*(v:Int)+(x.w:Int)+1=((1600*u+40*v+x.w+1:Nat):Int):=by omega
     have hbN:1600*u+40*v+x.w+1≤200000:=by omega
     generalize 1600*u+40*v+x.w+1=N at e1 hbN ⊢
     have e2:(N:Int).tdiv 256=((N/256:Nat):Int):=by rw[Int.tdiv_eq_ediv_of_nonneg (by omega)];omega
     have e3:(N:Int).tmod 256=((N%256:Nat):Int):=by rw[Int.tmod_eq_emod_of_nonneg (by omega)];omega
     have hb1:N/256≤1000:=by omega
     generalize N/256=N1 at e2 hb1 ⊢
     generalize N%256=N2 at e3 ⊢
     (try simp only[ctlB])
     repeat' ((first|refine xSDg ?_|refine xODg rfl ?_);(try simp only[ctlB]))
     refine xCDg (fun h=>?_) (fun h=>?_)
     ·clear h
      (try simp only[ctlB])
      repeat' ((first|refine xSDg ?_|refine xODg rfl ?_);(try simp only[ctlB]))
      change wpS cp lo _ _ _ (H6++[some (uN [N1,N2])])
      refine xHDg ?_
      refine hst6.litW (L:=[N1,N2]) rfl (by omega) (by omega) ?_
      intro w8 H8 hst8 hl8
      (try simp only[ctlB])
      repeat' ((first|refine xSDg ?_|refine xODg rfl ?_);(try simp only[ctlB]))
      exact⟨_,_,hst8.nil,exZDe (by first|rfl|(simp only[Int.natCast_add,Int.natCast_one];rfl)|simp only[Int.natCast_add,Int.natCast_one])⟩
     ·exfalso;first|cases h|(simp at h;done)
    ·rw[if_neg h2]
     obtain⟨aq6,hq6⟩:=hst6.swap.sl
     have hl6:(Pt++[x.w]).length≤2:=by rw[List.length_append,List.length_singleton];omega
     obtain⟨lq,hlq⟩:∃lq,False∨(Pt++[x.w]).length=lq:=⟨_,.inr rfl⟩
     rw[hlq.resolve_left id]at hq6 hl6
     subst hq6
     have dl:decide ((lq:Int)=3)=false:=decide_eq_false (by omega)
     (try simp only[ctlB])
     repeat' ((first|refine xSDg ?_|refine xODg rfl ?_);(try simp only[ctlB]))
     refine xCDg (fun h=>?_) (fun h=>?_)
     ·exfalso;first|cases h|(simp at h;done)
     ·(try simp only[ctlB])
      exact⟨_,_,hst6,exZDe (by first|rfl|(simp only[Int.natCast_add,Int.natCast_one];rfl)|simp only[Int.natCast_add,Int.natCast_one])⟩
   clear hst
   rintro S' H6 ⟨w,q,hst6,z,rfl⟩
   generalize emitR p n x W Pt=e at hinv hR hst6
   obtain⟨W',Pt'⟩:=e
   simp only at hinv hR hst6
   have hmx:mea C x.to<m:=by omega
   (try simp only[ctlB])
   refine aw_midXB (fun S' H'=>StE lo nb xb H1 H' x.to x w q W' Pt'∧∃(z:Nat→Value),S'=[.slice ad p.length c,z 1,z 2,coV H.length p,w,q,ptr nb,ptr xb,z 8,z 9,z 10,z 11,z 12,z 13,z 14,z 15,z 16,z 17,z 18,z 19,z 20,z 21,z 22,z 23,z 24,z 25,z 26,z 27,z 28,z 29,z 30,z 31,z 32,z 33,z 34,z 35,z 36,z 37,z 38,z 39,z 40,z 41,z 42,z 43,z 44,z 45,z 46,z 47,z 48,z 49]) ?_ ?_
   ·have hgx:H6.get xb=some [encN x.w,.int .i64 x.s,.int .i64 x.t,encN x.c,encN x.to.i,encN x.to.m,encN x.to.ph,encN x.to.s,.bool x.to.u]:=hst6.gx
    have hgn:H6.get nb=some [encN n.i,encN n.m,encN n.ph,encN n.s,.bool n.u]:=hst6.gn
    have hnl:=Heap.get_lt hgn
    have hnn:=hst6.nn
    have hlb:=hst6.lb
    (try simp only[ctlB])
    repeat' ((first|refine xSDg ?_|refine xODg rfl ?_);(try simp only[ctlB]))
    exact⟨hst6.node keepSet (get_set_self (by omega)),exZDe rfl⟩
   rintro S' H7 ⟨hst7,z,rfl⟩
   have hgn:H7.get nb=some [encN x.to.i,encN x.to.m,encN x.to.ph,encN x.to.s,.bool x.to.u]:=hst7.gn
   have hlb:=hst7.lb
   have hle:=hst7.ext.1
   (try simp only[ctlB])
   repeat' ((first|refine xSDg ?_|refine xODg rfl ?_);(try simp only[ctlB]))
   have hd8:HdE lo H7.length H1 (H7++[some (rnC x.to)]) x.to w q W' Pt':=hst7.hd (Ext.app _ _) get_app0 (Nat.le_refl _)
   exact⟨m,by omega,_,x.to,w,q,W',Pt',⟨⟨hd8,hinv⟩,hmx,hR⟩,exZDe rfl⟩
  ·exfalso
   have:¬ (n.m=0∧n.i=p.length):=he
   by_cases e:n.m=0
   ·rw[decide_eq_true (p:=(n.i:Int)<(p.length:Nat)) (by omega)]at h
    revert h
    cases decide ((n.m:Int)≠0)<;>simp
   ·rw[decide_eq_true (p:=(n.m:Int)≠0) (by omega)]at h
    cases h
end
end Go.Proofs.Ythnflhimcmdnbaa
