/- Lemmas. -/
import Derived.Test.YtgpolmomghejoaaDoorE26
import Derived.Test.YtgpolmomghejoaaDoorE28
set_option linter.unusedVariables false
set_option linter.unusedSimpArgs false
set_option linter.unusedSectionVars false
namespace Go.Proofs.YtgpolmomghejoaaDoor
open Go.Abs
set_option maxRecDepth 20000
theorem RunC.step{p:List UInt8}{a i:Nat}{R:Nat→Nat→List Nat}(h:a+(i+1)≤p.length)(x:List Nat):(RunC p a i R x∨x=kl ((p.drop a).take (i+1))++R (a+(i+1)) 8)↔RunC p a (i+1) R x:=by
 constructor
 ·rintro(⟨n,h1,h2,h3,h4⟩|rfl)
  ·exact⟨n,h1,by omega,h3,h4⟩
  ·exact⟨i+1,by omega,Nat.le_refl _,h,rfl⟩
 ·rintro⟨n,h1,h2,h3,h4⟩
  by_cases e:n=i+1
  ·subst e;exact .inr h4
  ·exact .inl ⟨n,h1,by omega,h3,h4⟩
theorem RunC.one{p:List UInt8}{a:Nat}{R:Nat→Nat→List Nat}(h:a+1≤p.length)(x:List Nat):x=kl ((p.drop a).take 1)++R (a+1) 8↔RunC p a 1 R x:=by
 rw[←RunC.step (i:=0) h];constructor
 ·exact .inr
 ·rintro(⟨n,h1,h2,-⟩|h)
  ·omega
  ·exact h
theorem RunC.ok{p:List UInt8}{a m:Nat}{R:Nat→Nat→List Nat}{x:List Nat}(h:RunC p a m R x)(hR:OkR p.length a R)(hp:p.length≤4096):x.length≤200000∧∀y ∈ x,y≤928:=by
 obtain⟨n,h1,h2,h3,rfl⟩:=h;have hr:=hR (a+n) 8 (by omega) h3 (by decide);have hs:=oT ((p.drop a).take n);have hl:((p.drop a).take n).length≤4096:=by simp;omega
 refine⟨by rw[List.length_append];omega,fun y hy=>?_⟩;rcases List.mem_append.1 hy with h|h
 ·exact ud _ y h
 ·exact hr.2 y h
theorem DigC.ok{p:List UInt8}{a m:Nat}{R:Nat→Nat→List Nat}{x:List Nat}(h:DigC p a m R x)(hR:OkR p.length a R)(hp:p.length≤4096):x.length≤200000∧∀y ∈ x,y≤928:=by
 obtain⟨n,h1,h2,h3,h4,rfl⟩:=h;have hr:=hR (a+n) 8 (by omega) h3 (by decide);have hl:((p.drop a).take n).length≤4096:=by simp;omega
 have hw:=fx _ (Nat.le_refl _) (List.all_eq_true.1 h4);refine⟨by simp only[List.length_append,List.length_cons];omega,fun y hy=>?_⟩;rcases List.mem_append.1 hy with h|h
 ·rcases List.mem_cons.1 h with rfl|h
  ·omega
  ·exact qk _ _ (Nat.le_refl _) y h
 ·exact hr.2 y h
theorem DigC.step{p:List UInt8}{a i:Nat}{R:Nat→Nat→List Nat}(h:a+(i+1)≤p.length)(hd:((p.drop a).take (i+1)).all bg=true)(x:List Nat):(DigC p a i R x∨x=902::iS ((p.drop a).take (i+1))++R (a+(i+1)) 8)↔DigC p a (i+1) R x:=by
 constructor
 ·rintro(⟨n,h1,h2,h3,h4,h5⟩|rfl)
  ·exact⟨n,h1,by omega,h3,h4,h5⟩
  ·exact⟨i+1,by omega,Nat.le_refl _,h,hd,rfl⟩
 ·rintro⟨n,h1,h2,h3,h4,h5⟩
  by_cases e:n=i+1
  ·subst e;exact .inr h5
  ·exact .inl ⟨n,h1,by omega,h3,h4,h5⟩
theorem yT{α:Type}{enc:α→Value}{lo b:Nat}{H:Heap}{v:Value}{l:List α}(h:Grow lo H v b (l.map enc)):Sl enc H v l:=h.sl
theorem Dr{A Z n lo:Nat}{H:Heap}{B:Nat}{rb:Nat→Nat}{R:Nat→Nat→List Nat}{v:Value}{p:List UInt8}{a:Nat}(hlo:lo≤H.length)(hZ:Z≤H.length)(hv:Sl bZ H v p)(hp:p.length≤4096)(hn:n=p.length)(ha:a<p.length)
  (hB:BestH A Z H B n rb R) (hR:OkR p.length a R) :
  Ev cp lo 38 [v,.int .i64 (a:Nat),.slice (some ⟨B,0,some 1⟩) (n+1) (n+1)] H (fun r H'=>Ext H H'∧∃out,Fz Z H' r out∧BestIn (fun x=>RunC p a p.length R x∨DigC p a p.length R x) out):=by
 subst hn;have hv0:=hv;obtain⟨ad,c0,rfl⟩:=hv.len;replace hR:False∨_:=.inr hR;refine HI ?_;unfold E2 zO;simp only[kB,aA];repeat' ((first|refine aV ?_|refine aU rfl ?_);(try simp only[aA]))
 refine ai (fun i S H'=>Ext H H'∧∃(w:Value) (out:List Nat),Fz Z H' w out∧(i=0∨BestIn (RunC p a i R) out)∧∃(z:Nat→Value),S=[.slice ad p.length c0,.int .i64 (a:Nat),.slice (some ⟨B,0,some 1⟩) (p.length+1) (p.length+1),z 3,w,.int .i64 ((i+1:Nat):Int),z 6,z 7,z 8,z 9,z 10,z 11,z 12,z 13,z 14,z 15,z 16,z 17,z 18,z 19,z 20,z 21,z 22,z 23]) (p.length-a) ?_ ?_ ?_ ?_
 ·exact⟨Ext.refl _,_,[],Fz.nil,.inl rfl,aE rfl⟩
 ·rintro i S H' hi ⟨-,w,out,-,-,z,rfl⟩
  exact⟨_,fW,by simp;omega⟩
 ·rintro i S H1 hi ⟨hx,w,out,hw,hbest,z,rfl⟩
  have hB1:=hB.mono hx;have hl1:=hx.1;obtain⟨j,hj1,hj2⟩:∃j,j≤a+(i+1)∧a+(i+1)≤j:=⟨_,Nat.le_refl _,Nat.le_refl _⟩;have hje:a+(i+1)=j:=by omega
  have eij:(a:Int)+((i+1:Nat):Int)=(j:Nat):=by omega
  have hjp:j≤p.length:=by omega
  obtain⟨xs,gB,xl,hxs⟩:=hB1.get;have gxj:xs[j]?=some (.slice (some ⟨rb j,0,some 1⟩) 9 9):=hxs j hjp;obtain⟨vs,hrow⟩:=hB1.row j hjp;obtain⟨u,hu,hfu⟩:=hrow.at_ 8 (by decide);have gr:=hrow.get;have hvl:=hrow.len;have hsx:eK xs xs=true:=ju fun q hq=>by
   obtain⟨t,ht,rfl⟩:=List.getElem_of_mem hq;have:=hxs t (by omega);rw[List.getElem?_eq_getElem ht]at this;injection this with this;rw[this];simp[gF,iG]
  have hsv:=hrow.same;obtain⟨pv,hpv,hps⟩:=kO (x:=(a:Int)) (y:=(j:Nat)) (hv0.mono hx) rfl rfl (by omega) hjp;have hRj:=hR.resolve_left id j 8 (by omega) hjp (by decide);have hpl:((p.drop a).take (j-a)).length≤4096:=by simp;omega
  have hjs:j-a=i+1:=by omega
  rw[hjs]at hps hpl;have hs6:=oT ((p.drop a).take (i+1));have hs6b:=ud ((p.drop a).take (i+1));have hstep:=RunC.step (p:=p) (a:=a) (i:=i) (R:=R) (by omega);have hone:=RunC.one (p:=p) (a:=a) (R:=R) (by omega);have hok:∀x,RunC p a i R x→x.length≤200000∧∀y ∈ x,y≤928:=fun x h=>h.ok (hR.resolve_left id) hp;rw[hje]at hstep;replace hxs:False∨_:=.inr hxs;replace hRj:False∨_:=.inr hRj;replace hs6b:False∨_:=.inr hs6b;replace hstep:False∨_:=.inr hstep;replace hone:False∨_:=.inr hone;replace hbest:False∨_:=.inr hbest;replace hje:False∨_:=.inr hje;have hw0:=hw;obtain⟨aw,cw,rfl⟩:=hw.sl.len;(try simp only[aA]);refine fX ?_;refine dr rfl ((BS (by omega) hps (by omega)).mono ?_);rintro r K ⟨hxK,k1,hg1⟩;refine⟨?_,?_⟩
  ·simp only[List.take_succ_cons,List.take_zero,List.all_cons,List.all_nil,Bool.and_true,Bool.and_eq_true]
   exact⟨eu rfl gB (hxK.get gB) hsx,eu rfl gr (hxK.get gr) hsv⟩
  have hKl:=hxK.1;(try simp only[aA]);repeat' ((first|refine aV ?_|refine aU rfl ?_);(try simp only[aA]))
  refine fX ?_;refine kU (jD (a:=kl ((p.drop a).take (i+1))) (b:=R j 8) (by omega) (yT hg1) ((hfu.mono hxK).sl) (by have:=hRj.resolve_left id;omega)) ?_;rintro r2 K2 ⟨hxK2,k2,hg2⟩;have hx2:=(hx.trans hxK).trans hxK2;have hlK2:=hx2.1;have hgz:=hg2.lower (show Z≤K.length by omega);have hxlen:(kl ((p.drop a).take (i+1))++R j 8).length≤200000:=by rw[List.length_append];have:=hRj.resolve_left id;omega
  have hxok:∀x ∈ kl ((p.drop a).take (i+1))++R j 8,x≤928:=by
   intro x hx;rcases List.mem_append.1 hx with h|h
   ·exact hs6b.resolve_left id x h
   ·exact(hRj.resolve_left id).2 x h
  have hfx:Fz Z K2 r2 (kl ((p.drop a).take (i+1))++R j 8):=⟨k2,hgz⟩;have hw2:=hw0.mono (hxK.trans hxK2);generalize hX:kl ((p.drop a).take (i+1))++R j 8=X at *;obtain⟨ax,cx,rfl⟩:=hfx.sl.len;replace hxok:False∨_:=.inr hxok;clear hg2 hgz hg1 hs6b gB gr hxs hw hw0 hu hfu hrow hB1 hpv gxj hsx hsv;(try simp only[aA]);repeat' ((first|refine aV ?_|refine aU rfl ?_);(try simp only[aA]))
  rcases hbest.resolve_left id with h0|hbest
  ·subst h0
   have e1:decide (((0+1:Nat):Int)=1)=true:=rfl;have hj1':j=a+1:=by omega
   have hfin:BestIn (RunC p a 1 R) X:=(BestIn.one X).congr fun x=>by rw[←hone.resolve_left id x,←hX,hj1']
   refine j9 (t:=false) (fW) (by simp(disch:=first|omega|(simp only[aD];omega))only[evB,cH,Nat.reduceAdd,Nat.reduceMul,Nat.reduceBEq,Int.reduceToNat,Int.reduceEq,Int.reduceNe, *]) (by simp(disch:=first|omega|(simp only[aD];omega))only[evB,cH,Nat.reduceAdd,Nat.reduceMul,Nat.reduceBEq,Int.reduceToNat,Int.reduceEq,Int.reduceNe, *];try rfl) (fun h=>by cases h) (fun _=>?_);(try simp only[aA]);refine aF (t:=true) (by simp(disch:=first|omega|(simp only[aD];omega))only[evB,cH,Nat.reduceAdd,Nat.reduceMul,Nat.reduceBEq,Int.reduceToNat,Int.reduceEq,Int.reduceNe, *];try rfl) (fun h=>?_) (fun h=>by cases h);clear h;clear eij;(try simp only[aA]);(repeat' ((first|refine aV ?_|refine aU rfl ?_);(try simp only[aA])));exact⟨hx2,_,X,hfx,.inr hfin,aE (by first|rfl|(simp only[Int.natCast_add,Int.natCast_one];rfl)|simp only[Int.natCast_add,Int.natCast_one])⟩
  ·have hi0:i≠0:=by
    rintro rfl;obtain⟨n,h1,h2,-⟩:=hbest.1;omega
   have e1:decide (((i+1:Nat):Int)=1)=false:=by simp;omega
   have hoo:=hok out hbest.1;refine j9 (t:=true) (by simp(disch:=first|omega|(simp only[aD];omega))only[evB,cH,Nat.reduceAdd,Nat.reduceMul,Nat.reduceBEq,Int.reduceToNat,Int.reduceEq,Int.reduceNe, *];try rfl) (by simp(disch:=first|omega|(simp only[aD];omega))only[evB,cH,Nat.reduceAdd,Nat.reduceMul,Nat.reduceBEq,Int.reduceToNat,Int.reduceEq,Int.reduceNe, *]) (by simp(disch:=first|omega|(simp only[aD];omega))only[evB,cH,Nat.reduceAdd,Nat.reduceMul,Nat.reduceBEq,Int.reduceToNat,Int.reduceEq,Int.reduceNe, *];try rfl) (fun _=>⟨_,by simp(disch:=first|omega|(simp only[aD];omega))only[evB,cH,Nat.reduceAdd,Nat.reduceMul,Nat.reduceBEq,Int.reduceToNat,Int.reduceEq,Int.reduceNe, *];try rfl,?_⟩) (fun h=>by cases h);refine aC (o9 hfx.sl hw2.sl (by omega) (by omega) (fun x hx=>by have:=hxok.resolve_left id x hx;omega) (fun x hx=>by have:=hoo.2 x hx;omega)) ?_;rintro r K3 ⟨rfl,t,rfl,ht1,ht2⟩;have hfin:t=true→BestIn (RunC p a (i+1) R) X:=fun h=>(hbest.take (ht1 h)).congr fun x=>by rw[←hstep.resolve_left id x]
   have hfin2:t=false→BestIn (RunC p a (i+1) R) out:=fun h=>(hbest.stay (ht2 h)).congr fun x=>by rw[←hstep.resolve_left id x]
   clear ht1 ht2 eij;replace hfin:False∨_:=.inr hfin;replace hfin2:False∨_:=.inr hfin2;replace hbest:False∨_:=.inr hbest;(try simp only[aA]);cases t with
   | true=>
    refine aF (t:=true) (by simp(disch:=first|omega|(simp only[aD];omega))only[evB,cH,Nat.reduceAdd,Nat.reduceMul,Nat.reduceBEq,Int.reduceToNat,Int.reduceEq,Int.reduceNe, *];try rfl) (fun h=>?_) (fun h=>by cases h);clear h;(try simp only[aA]);(repeat' ((first|refine aV ?_|refine aU rfl ?_);(try simp only[aA])));exact⟨hx2,_,X,hfx,.inr (hfin.resolve_left id rfl),aE (by first|rfl|(simp only[Int.natCast_add,Int.natCast_one];rfl)|simp only[Int.natCast_add,Int.natCast_one])⟩
   | false=>
    refine aF (t:=false) (by simp(disch:=first|omega|(simp only[aD];omega))only[evB,cH,Nat.reduceAdd,Nat.reduceMul,Nat.reduceBEq,Int.reduceToNat,Int.reduceEq,Int.reduceNe, *];try rfl) (fun h=>by cases h) (fun h=>?_);clear h;(try simp only[aA]);(repeat' ((first|refine aV ?_|refine aU rfl ?_);(try simp only[aA])));exact⟨hx2,_,out,hw2,.inr (hfin2.resolve_left id rfl),aE (by first|rfl|(simp only[Int.natCast_add,Int.natCast_one];rfl)|simp only[Int.natCast_add,Int.natCast_one])⟩
 rintro S H1 ⟨hx,w,out,hw,hbest,z,rfl⟩;have hbest:BestIn (RunC p a p.length R) out:=by
  refine(hbest.resolve_left (by omega)).congr fun x=>⟨?_,?_⟩
  ·rintro⟨n,h1,h2,h3,h4⟩;exact⟨n,h1,by omega,h3,h4⟩
  ·rintro⟨n,h1,h2,h3,h4⟩;exact⟨n,h1,by omega,h3,h4⟩
 have hbest:BestIn (fun x=>RunC p a p.length R x∨DigC p a 0 R x) out:=hbest.congr fun x=>⟨.inl,fun h=>h.resolve_right fun⟨n,h1,h2,_⟩=>by omega⟩;replace hbest:False∨_:=.inr hbest;(try simp only[aA]);repeat' ((first|refine aV ?_|refine aU rfl ?_);(try simp only[aA]))
 refine bk (fun m S H'=>Ext H H'∧∃(i:Nat) (w:Value) (out:List Nat),(m≤p.length-a-i∧p.length-a-i≤m)∧a+i≤p.length∧(((p.drop a).take i).all bg=true∨False)∧Fz Z H' w out∧(False∨BestIn (fun x=>RunC p a p.length R x∨DigC p a i R x) out)∧∃(z:Nat→Value),S=[.slice ad p.length c0,.int .i64 (a:Nat),.slice (some ⟨B,0,some 1⟩) (p.length+1) (p.length+1),z 3,w,z 5,z 6,.int .i64 ((i+1:Nat):Int),z 8,z 9,z 10,z 11,z 12,z 13,z 14,z 15,z 16,z 17,z 18,z 19,z 20,z 21,z 22,z 23]) (p.length-a) ?_ ?_
 ·exact⟨hx,0,w,out,by omega,by omega,.inl (by simp),hw,hbest,aE rfl⟩
 clear hbest hw hx;rintro m S H1 ⟨hx,i,w,out,hm,hai,hall,hw,hbest,z,rfl⟩;have hdone:(a+i=p.length∨bg (p.getD (a+i) 0)=false)→BestIn (fun x=>RunC p a p.length R x∨DigC p a p.length R x) out:=by
  intro hc;refine(hbest.resolve_left id).congr fun x=>⟨Or.imp id ?_,Or.imp id ?_⟩
  ·rintro⟨n,h1,h2,h3,h4⟩;exact⟨n,h1,by omega,h3,h4⟩
  ·rintro⟨n,h1,h2,h3,h4,h5⟩
   refine⟨n,h1,?_,h3,h4,h5⟩;rcases hc with hc|hc
   ·omega
   ·refine Nat.le_of_not_lt fun hlt=>?_
    have:=qJ h4 (i:=i) (by simp;omega);rw[List.getD_eq_getElem?_getD,List.getElem?_take,if_pos hlt,List.getElem?_drop,←List.getD_eq_getElem?_getD,hc]at this;cases this
 replace hdone:False∨_:=.inr hdone;have eij:(a:Int)+((i+1:Nat):Int)=((a+i+1:Nat):Int):=by omega
 have hl1:=hx.1;by_cases hend:a+i=p.length
 ·have hfin:=hdone.resolve_left id (.inl hend)
  replace hfin:False∨_:=.inr hfin;have hge:p.length≤a+i∧a+i≤p.length:=by omega
  have hge1:=hge.1;have hge2:=hge.2;have hno:decide (((a+i+1:Nat):Int)≤(p.length:Int))=false:=by simp;omega
  clear hend hge hall hbest hdone;(try simp only[aA]);refine aF (t:=false) (by simp(disch:=first|omega|(simp only[aD];omega))only[evB,cH,Nat.reduceAdd,Nat.reduceMul,Nat.reduceBEq,Int.reduceToNat,Int.reduceEq,Int.reduceNe, *];try rfl) (fun h=>by cases h) (fun h=>?_);clear h;(try simp only[aA]);repeat' ((first|refine aV ?_|refine aU rfl ?_);(try simp only[aA]))
  refine fQ ?_;exact⟨hx,out,hw,hfin.resolve_left id⟩
 have hlt:a+i<p.length:=by omega
 clear hend;have hyes:decide (((a+i+1:Nat):Int)≤(p.length:Int))=true:=by simp;omega
 obtain⟨b1,o,sp,cap,ps,e,hg,hps,-⟩:=(hv0.mono hx).els 0 (by omega);cases e;have hpx:ps[o+(a+i)]?=some (.int .u8 ((p.getD (a+i) 0).toNat:Int)):=hps (a+i) hlt;have eix:(((a+i+1:Nat):Int)-1).toNat=a+i:=by omega
 have hdn:bg (p.getD (a+i) 0)=true→((p.drop a).take (i+1)).all bg=true:=by
  intro h;rw[List.take_add_one,List.all_append,hall.resolve_right id,List.getElem?_drop,List.getElem?_eq_getElem hlt];rw[List.getD_eq_getElem?_getD,List.getElem?_eq_getElem hlt]at h;simpa using h
 replace hdn:False∨_:=.inr hdn;replace hps:False∨_:=.inr hps;have hqb:=(p.getD (a+i) 0).toNat_lt;have hdq:bg (p.getD (a+i) 0)=true↔48≤(p.getD (a+i) 0).toNat∧(p.getD (a+i) 0).toNat≤57:=by simp[bg]
 generalize p.getD (a+i) 0=q at *;replace hdq:False∨_:=.inr hdq;(try simp only[aA]);refine fU (fun h=>?_) (fun h=>?_)
 ·have hq:48≤q.toNat∧q.toNat≤57:=by simp only[Bool.and_eq_true,decide_eq_true_eq]at h;omega
  clear h;have hdig:=hdn.resolve_left id ((hdq.resolve_left id).2 hq);have hstep:=DigC.step (p:=p) (a:=a) (i:=i) (R:=R) (by omega) hdig;clear hdn hdq hdone hq hqb hall;have hB1:=hB.mono hx;obtain⟨j,hj1,hj2⟩:∃j,j≤a+i+1∧a+i+1≤j:=⟨_,Nat.le_refl _,Nat.le_refl _⟩;have hje:a+i+1=j:=by omega
  have hjp:j≤p.length:=by omega
  obtain⟨xs,gB,xl,hxs⟩:=hB1.get;have gxj:xs[j]?=some (.slice (some ⟨rb j,0,some 1⟩) 9 9):=hxs j hjp;obtain⟨vs,hrow⟩:=hB1.row j hjp;obtain⟨u,hu,hfu⟩:=hrow.at_ 8 (by decide);have gr:=hrow.get;have hvl:=hrow.len;have hsx:eK xs xs=true:=ju fun q hq=>by
   obtain⟨t,ht,rfl⟩:=List.getElem_of_mem hq;have:=hxs t (by omega);rw[List.getElem?_eq_getElem ht]at this;injection this with this;rw[this];simp[gF,iG]
  have hsv:=hrow.same;obtain⟨pv,hpv,hpsl⟩:=kO (x:=(a:Int)) (y:=(j:Nat)) (hv0.mono hx) rfl rfl (by omega) hjp;have hbs:=fun H' (h:Sl bZ H' pv ((p.drop a).take (j-a)))=>qO h;have hb1:=hbs _ hpsl;have hRj:=hR.resolve_left id j 8 (by omega) hjp (by decide);have hpl:((p.drop a).take (j-a)).length≤4096:=by simp;omega
  have hjs:j-a=i+1:=by omega
  rw[hjs]at hpsl hpl hb1;rw[show a+(i+1)=j by omega]at hstep;rw[hje]at eij eix hyes;have hnum:gK ((p.drop a).take (i+1))=(iS ((p.drop a).take (i+1)),0):=by
   unfold gK;rw[if_neg (by omega),hdig];rfl
  have hwl:=fx _ (Nat.le_refl _) (List.all_eq_true.1 hdig);have hwlt:=qk _ ((p.drop a).take (i+1)) (Nat.le_refl _);have hoo:out.length≤200000∧∀y ∈ out,y≤928:=by
   rcases(hbest.resolve_left id).1 with h|h
   ·exact h.ok (hR.resolve_left id) hp
   ·exact h.ok (hR.resolve_left id) hp
  replace hxs:False∨_:=.inr hxs;replace hRj:False∨_:=.inr hRj;replace hwlt:False∨_:=.inr hwlt;replace hstep:False∨_:=.inr hstep;replace hdig:False∨_:=.inr hdig;replace hje:False∨_:=.inr hje;replace hoo:False∨_:=.inr hoo;clear hbs;have hw0:=hw;obtain⟨aw,cw,rfl⟩:=hw.sl.len;(try simp only[aA]);refine fX ?_;refine aC (GJ (by omega) (by omega)) ?_;rintro r K ⟨hxK,nv,rfl,hnv⟩;rw[hnum]at hnv ⊢;clear hnum hb1;have hKl:=hxK.1;have gB1:=hxK.get gB;have gr1:=hxK.get gr;simp only at hnv;generalize hW:iS ((p.drop a).take (i+1))=W at *;obtain⟨an,cn,rfl⟩:=hnv.len;clear gB gr;(try simp only[aA]);repeat' ((first|refine aV ?_|refine aU rfl ?_);(try simp only[aA]))
  have hxd:=Ext.push K (some [ag 902]);have gd:Heap.get (K++[some [ag 902]]) K.length=some [ag 902]:=aQ _ _;have hKd:(K++[some [ag 902]]).length=K.length+1:=by simp
  have ge:K++[some [Value.int .i64 902]]=K++[some [ag 902]]:=rfl;rw[ge];clear ge;generalize K++[some [ag 902]]=G at *;have gB2:=hxd.get gB1;have gr2:=hxd.get gr1;have h1s:SlN G (.slice (some ⟨K.length,0,none⟩) 1 1) [902]:=Sl.whole gd rfl;clear gB1 gr1;refine fX ?_;refine dr rfl ((jD (a:=[902]) (b:=W) (by omega) h1s (hnv.mono hxd) (by simp;omega)).mono ?_);rintro r2 K2 ⟨hxK2,k2,hg2⟩;refine⟨?_,?_⟩
  ·simp only[List.take_succ_cons,List.take_zero,List.all_cons,List.all_nil,Bool.and_true,Bool.and_eq_true]
   exact⟨eu rfl gB2 (hxK2.get gB2) hsx,eu rfl gr2 (hxK2.get gr2) hsv⟩
  have hK2l:=hxK2.1;have hx12:=(hxK.trans hxd).trans hxK2;(try simp only[aA]);repeat' ((first|refine aV ?_|refine aU rfl ?_);(try simp only[aA]))
  refine fX ?_;refine kU (jD (a:=[902]++W) (b:=R j 8) (by omega) (yT hg2) ((hfu.mono hx12).sl) (by have:=hRj.resolve_left id;simp;omega)) ?_;rintro r3 K3 ⟨hxK3,k3,hg3⟩;have hx13:=hx12.trans hxK3;have hxx:=hx.trans hx13;have hlK3:=hxK3.1;have hgz:=hg3.lower (show Z≤K2.length by omega);have hxlen:([902]++W++R j 8).length≤200000:=by simp only[List.length_append,List.length_cons,List.length_nil];have:=hRj.resolve_left id;omega
  have hxok:∀x ∈ [902]++W++R j 8,x≤928:=by
   intro x hx;rcases List.mem_append.1 hx with h|h
   ·rcases List.mem_append.1 h with h|h
    ·simp at h;omega
    ·exact hwlt.resolve_left id x h
   ·exact(hRj.resolve_left id).2 x h
  have hfx:Fz Z K3 r3 ([902]++W++R j 8):=⟨k3,hgz⟩;have hw2:=hw0.mono hx13;have hcons:902::W++R j 8=[902]++W++R j 8:=rfl;rw[hcons]at hstep;generalize [902]++W++R j 8=X at *;obtain⟨ax,cx,rfl⟩:=hfx.sl.len;have hoo:=hoo.resolve_left id;have hoo1:=hoo.1;have hoo2:False∨_:=.inr hoo.2;replace hxok:False∨_:=.inr hxok;clear hg3 hgz hg2 hcons gB2 gr2 gd hxs hw hw0 hu hfu hrow hB1 hpv gxj hsx hsv hoo hwlt;(try simp only[aA]);repeat' ((first|refine aV ?_|refine aU rfl ?_);(try simp only[aA]))
  refine fX ?_;refine aC (o9 hfx.sl hw2.sl (by omega) (by omega) (fun x hx=>by have:=hxok.resolve_left id x hx;omega) (fun x hx=>by have:=hoo2.resolve_left id x hx;omega)) ?_;rintro r K4 ⟨rfl,t,rfl,ht1,ht2⟩;have hbest:=hbest.resolve_left id;have hfin:t=true→BestIn (fun x=>RunC p a p.length R x∨DigC p a (i+1) R x) X:=fun h=>(hbest.take (ht1 h)).congr fun x=>by rw[←hstep.resolve_left id x,or_assoc]
  have hfin2:t=false→BestIn (fun x=>RunC p a p.length R x∨DigC p a (i+1) R x) out:=fun h=>(hbest.stay (ht2 h)).congr fun x=>by rw[←hstep.resolve_left id x,or_assoc]
  clear ht1 ht2 eij;replace hfin:False∨_:=.inr hfin;replace hfin2:False∨_:=.inr hfin2;clear hbest;(try simp only[aA]);refine fU (fun h=>?_) (fun h=>?_)
  ·have hfin:=hfin.resolve_left id h
   clear h;(try simp only[aA]);(repeat' ((first|refine aV ?_|refine aU rfl ?_);(try simp only[aA])));simp only[dP];exact⟨p.length-a-(i+1),by omega,hxx,i+1,_,X,by omega,by omega,.inl (hdig.resolve_left id),hfx,.inr hfin,aE (by first|rfl|(simp only[Int.natCast_add,Int.natCast_one];rfl)|simp only[Int.natCast_add,Int.natCast_one])⟩
  ·have hfin2:=hfin2.resolve_left id h
   clear h;(try simp only[aA]);(repeat' ((first|refine aV ?_|refine aU rfl ?_);(try simp only[aA])));simp only[dP];exact⟨p.length-a-(i+1),by omega,hxx,i+1,_,out,by omega,by omega,.inl (hdig.resolve_left id),hw2,.inr hfin2,aE (by first|rfl|(simp only[Int.natCast_add,Int.natCast_one];rfl)|simp only[Int.natCast_add,Int.natCast_one])⟩
 ·have hq:bg q=false:=by
   simp only[Bool.and_eq_false_iff,decide_eq_false_iff_not]at h;refine Bool.eq_false_iff.2 fun e=>?_;have:=(hdq.resolve_left id).1 e;omega
  clear h;have hfin:=hdone.resolve_left id (.inr hq);clear hdone hdn hdq hall hbest;replace hfin:False∨_:=.inr hfin;(try simp only[aA]);repeat' ((first|refine aV ?_|refine aU rfl ?_);(try simp only[aA]))
  refine fQ ?_;exact⟨hx,out,hw,hfin.resolve_left id⟩
theorem Ba{x:Nat×Nat}(h1:x.1<4)(h2:x.2<3):nO x<8:=by unfold nO;split<;>(try split)<;>omega
theorem lK{l:List UInt8}{s c n t:Nat}(hs:s<8)(hc:c<900)(h:eE l s c=some (n,t)):n≤2∧n≤l.length∧t<8:=by
 unfold eE at h;rw[Option.map_eq_some_iff]at h;obtain⟨⟨x,m⟩,h1,h2⟩:=h;obtain⟨a1,a2,a3,a4⟩:=qa hs hc h1;injection h2 with e1 e2;simp only at e1 e2;subst e1 e2;exact⟨a3,a4,Ba a1 a2⟩
def PairC(p:List UInt8)(a s m:Nat)(R:Nat→Nat→List Nat)(x:List Nat):Prop:=∃c n t,c<m∧eE (p.drop a) s c=some (n,t)∧0<n∧x=c::R (a+n) t
theorem PairC.step{p:List UInt8}{a s i n t:Nat}{R:Nat→Nat→List Nat}(h:eE (p.drop a) s i=some (n,t))(hn:0<n)(x:List Nat):(PairC p a s i R x∨x=i::R (a+n) t)↔PairC p a s (i+1) R x:=by
 constructor
 ·rintro(⟨c,m,u,h1,h2,h3,h4⟩|rfl)
  ·exact⟨c,m,u,by omega,h2,h3,h4⟩
  ·exact⟨i,n,t,by omega,h,hn,rfl⟩
 ·rintro⟨c,m,u,h1,h2,h3,h4⟩
  by_cases e:c=i
  ·subst e
   rw[h]at h2;injection h2 with h2;injection h2 with e1 e2;subst e1 e2;exact .inr h4
  ·exact .inl ⟨c,m,u,by omega,h2,h3,h4⟩
theorem PairC.skip{p:List UInt8}{a s i:Nat}{R:Nat→Nat→List Nat}(h:∀n t,eE (p.drop a) s i=some (n,t)→n=0)(x:List Nat):PairC p a s i R x↔PairC p a s (i+1) R x:=by
 constructor
 ·rintro⟨c,m,u,h1,h2,h3,h4⟩
  exact⟨c,m,u,by omega,h2,h3,h4⟩
 ·rintro⟨c,m,u,h1,h2,h3,h4⟩
  refine⟨c,m,u,?_,h2,h3,h4⟩;refine Nat.lt_of_le_of_ne (by omega) fun e=>?_;subst e;have:=h m u h2;omega
theorem G1{A Z n lo:Nat}{H:Heap}{B:Nat}{rb:Nat→Nat}{R:Nat→Nat→List Nat}{v fv:Value}{p:List UInt8}{a s:Nat}{first:List Nat}{L:List Nat→Prop}(hlo:lo≤H.length)(hZ:Z≤H.length)(hv:Sl bZ H v p)(hp:p.length≤4096)(hn:n=p.length)(ha:a<p.length)(hs:s<8)
  (hB:BestH A Z H B n rb R) (hR:OkR p.length a R) (hf:Fz Z H fv first) (hL:BestIn L first) (hf1:first.length≤200000) (hf2:∀x ∈ first,x≤928) :
  Ev cp lo 39 [v,.int .i64 (a:Nat),.int .i64 (s:Nat),.slice (some ⟨B,0,some 1⟩) (n+1) (n+1),fv] H (fun r H'=>Ext H H'∧∃out,Fz Z H' r out∧BestIn (fun x=>(L x∨PairC p a s 900 R x)∨x=913::byA p a::R (a+1) (c8 s).1) out):=by
 subst hn;have hv0:=hv;obtain⟨ad,c0,rfl⟩:=hv.len;replace hR:False∨_:=.inr hR;replace hL:False∨_:=.inr hL;replace hf2:False∨_:=.inr hf2;have hf0:=hf;obtain⟨af,cf,rfl⟩:=hf.sl.len;refine KZ ?_;unfold C5 zH;simp only[kB,aA];repeat' ((first|refine aV ?_|refine aU rfl ?_);(try simp only[aA]))
 refine ai (fun i S H'=>Ext H H'∧∃(w:Value) (out:List Nat),Fz Z H' w out∧out.length≤200000∧(False∨∀x ∈ out,x≤928)∧(False∨BestIn (fun x=>L x∨PairC p a s i R x) out)∧∃(z:Nat→Value),S=[.slice ad p.length c0,.int .i64 (a:Nat),.int .i64 (s:Nat),.slice (some ⟨B,0,some 1⟩) (p.length+1) (p.length+1),w,z 5,.int .i64 (i:Nat),z 7,z 8,z 9,z 10,z 11,z 12,z 13,z 14,z 15,z 16,z 17,z 18,z 19,z 20,z 21]) 900 ?_ ?_ ?_ ?_
 ·exact⟨Ext.refl _,_,first,hf0,hf1,hf2,.inr ((hL.resolve_left id).congr fun x=>⟨.inl,fun h=>h.resolve_right fun⟨c,n,t,h,_⟩=>by omega⟩),aE rfl⟩
 ·rintro i S H' hi ⟨-,w,out,-,-,-,-,z,rfl⟩
  exact⟨_,fW,by simp;omega⟩
 ·clear hf hf0 hf1 hf2 hL
  rintro i S H1 hi ⟨hx,w,out,hw,hw1,hw2,hbest,z,rfl⟩;have hB1:=hB.mono hx;have hl1:=hx.1;obtain⟨pv,hpv,hps⟩:=uZ (n:=a) (hv0.mono hx) (by omega);(try simp only[aA]);refine fX ?_;refine aC (zw hps hs hi) ?_;rintro r K ⟨rfl,rfl⟩;clear hpv;have hPs:=fun n t (h:eE (p.drop a) s i=some (n,t))=>lK hs hi h;unfold oH;have hskip:=PairC.skip (p:=p) (a:=a) (s:=s) (i:=i) (R:=R);have hstep:=fun n t h1 h2 x=>PairC.step (p:=p) (a:=a) (s:=s) (i:=i) (R:=R) (n:=n) (t:=t) h1 h2 x;generalize hpq:eE (p.drop a) s i=pq at *;replace hpq:False∨_:=.inr hpq;cases pq with
  | none=>
   have hbest:BestIn (fun x=>L x∨PairC p a s (i+1) R x) out:=(hbest.resolve_left id).congr fun x=>by rw[hskip (fun n t h=>by cases h) x]
   replace hbest:False∨_:=.inr hbest;clear hstep hskip hPs;(try simp only[aA]);(repeat' ((first|refine aV ?_|refine aU rfl ?_);(try simp only[aA])));refine aF (t:=false) (by simp(disch:=first|omega|(simp only[aD];omega))only[evB,cH,Nat.reduceAdd,Nat.reduceMul,Nat.reduceBEq,Int.reduceToNat,Int.reduceEq,Int.reduceNe, *];try rfl) (fun h=>by cases h) (fun h=>?_);clear h;(try simp only[aA]);(repeat' ((first|refine aV ?_|refine aU rfl ?_);(try simp only[aA])));exact⟨hx,w,out,hw,hw1,hw2,hbest,aE (by first|rfl|(simp only[Int.natCast_add,Int.natCast_one];rfl)|simp only[Int.natCast_add,Int.natCast_one])⟩
  | some q=>
   obtain⟨n,t⟩:=q;obtain⟨hn2,hnl,ht8⟩:=hPs n t rfl;rw[List.length_drop]at hnl;by_cases hn0:n=0
   ·subst hn0
    have hbest:BestIn (fun x=>L x∨PairC p a s (i+1) R x) out:=(hbest.resolve_left id).congr fun x=>by rw[hskip (fun n t h=>by injection h with h;injection h with h _;exact h.symm) x]
    replace hbest:False∨_:=.inr hbest;clear hstep hskip hPs;(try simp only[aA]);(repeat' ((first|refine aV ?_|refine aU rfl ?_);(try simp only[aA])));refine fU (fun h=>?_) (fun h=>?_)
    ·exfalso;simp at h
    clear h;(try simp only[aA]);(repeat' ((first|refine aV ?_|refine aU rfl ?_);(try simp only[aA])));exact⟨hx,w,out,hw,hw1,hw2,hbest,aE (by first|rfl|(simp only[Int.natCast_add,Int.natCast_one];rfl)|simp only[Int.natCast_add,Int.natCast_one])⟩
   ·have hstep:=hstep n t rfl (by omega)
    have hn1:1≤n:=by omega
    obtain⟨j,hj1,hj2⟩:∃j,j≤a+n∧a+n≤j:=⟨_,Nat.le_refl _,Nat.le_refl _⟩;have hje:a+n=j:=by omega
    have eij:(a:Int)+((n:Nat):Int)=(j:Nat):=by omega
    have hjp:j≤p.length:=by omega
    obtain⟨xs,gB,xl,hxs⟩:=hB1.get;have gxj:xs[j]?=some (.slice (some ⟨rb j,0,some 1⟩) 9 9):=hxs j hjp;obtain⟨vs,hrow⟩:=hB1.row j hjp;obtain⟨u,hu,hfu⟩:=hrow.at_ t (by omega);have gr:=hrow.get;have hvl:=hrow.len;have hRj:=hR.resolve_left id j t (by omega) hjp (by omega);rw[hje]at hstep;clear hskip hPs hn0 hje;replace hxs:False∨_:=.inr hxs;replace hRj:False∨_:=.inr hRj;replace hstep:False∨_:=.inr hstep;have hw0:=hw;obtain⟨aw,cw,rfl⟩:=hw.sl.len;(try simp only[aA]);(repeat' ((first|refine aV ?_|refine aU rfl ?_);(try simp only[aA])));refine fU (fun h=>?_) (fun h=>?_)
    ·clear h
     (try simp only[aA]);(repeat' ((first|refine aV ?_|refine aU rfl ?_);(try simp only[aA])));have hxd:=Ext.push K (some [ag i]);have gd:Heap.get (K++[some [ag i]]) K.length=some [ag i]:=aQ _ _;have ge:K++[some [Value.int .i64 ((i:Nat):Int)]]=K++[some [ag i]]:=rfl;rw[ge];clear ge;have hKd:(K++[some [ag i]]).length=K.length+1:=by simp
     generalize K++[some [ag i]]=G at *;have gB2:=hxd.get gB;have gr2:=hxd.get gr;have h1s:SlN G (.slice (some ⟨K.length,0,none⟩) 1 1) [i]:=Sl.whole gd rfl;clear gB gr;refine fX ?_;refine aC (jD (a:=[i]) (b:=R j t) (by omega) h1s ((hfu.mono hxd).sl) (by have:=hRj.resolve_left id;simp;omega)) ?_;rintro r2 K2 ⟨hxK2,k2,hg2⟩;have hx2:=(hx.trans hxd).trans hxK2;have hlK2:=hxK2.1;have hgz:=hg2.lower (show Z≤G.length by omega);have hxlen:([i]++R j t).length≤200000:=by simp only[List.length_append,List.length_cons,List.length_nil];have:=hRj.resolve_left id;omega
     have hxok:∀x ∈ [i]++R j t,x≤928:=by
      intro x hx;rcases List.mem_append.1 hx with h|h
      ·simp at h;omega
      ·exact(hRj.resolve_left id).2 x h
     have hfx:Fz Z K2 r2 ([i]++R j t):=⟨k2,hgz⟩;have hwb:=hw0.mono (hxd.trans hxK2);have hcons:i::R j t=[i]++R j t:=rfl;rw[hcons]at hstep;generalize [i]++R j t=X at *;obtain⟨ax,cx,rfl⟩:=hfx.sl.len;replace hxok:False∨_:=.inr hxok;clear hg2 hgz hcons gB2 gr2 gd hxs hw hw0 hu hfu hrow hB1 gxj eij;(try simp only[aA]);(repeat' ((first|refine aV ?_|refine aU rfl ?_);(try simp only[aA])));refine fX ?_;refine aC (o9 hfx.sl hwb.sl (by omega) (by omega) (fun x hx=>by have:=hxok.resolve_left id x hx;omega) (fun x hx=>by have:=hw2.resolve_left id x hx;omega)) ?_;rintro r K3 ⟨rfl,t,rfl,ht1,ht2⟩;have hbest:=hbest.resolve_left id;have hfin:t=true→BestIn (fun x=>L x∨PairC p a s (i+1) R x) X:=fun h=>(hbest.take (ht1 h)).congr fun x=>by rw[←hstep.resolve_left id x,or_assoc]
     have hfin2:t=false→BestIn (fun x=>L x∨PairC p a s (i+1) R x) out:=fun h=>(hbest.stay (ht2 h)).congr fun x=>by rw[←hstep.resolve_left id x,or_assoc]
     clear ht1 ht2;replace hfin:False∨_:=.inr hfin;replace hfin2:False∨_:=.inr hfin2;clear hbest;(try simp only[aA]);refine fU (fun h=>?_) (fun h=>?_)
     ·have hfin:=hfin.resolve_left id h
      clear h;(try simp only[aA]);(repeat' ((first|refine aV ?_|refine aU rfl ?_);(try simp only[aA])));exact⟨hx2,_,X,hfx,by omega,hxok,.inr hfin,aE (by first|rfl|(simp only[Int.natCast_add,Int.natCast_one];rfl)|simp only[Int.natCast_add,Int.natCast_one])⟩
     ·have hfin2:=hfin2.resolve_left id h
      clear h;(try simp only[aA]);(repeat' ((first|refine aV ?_|refine aU rfl ?_);(try simp only[aA])));exact⟨hx2,_,out,hwb,hw1,hw2,.inr hfin2,aE (by first|rfl|(simp only[Int.natCast_add,Int.natCast_one];rfl)|simp only[Int.natCast_add,Int.natCast_one])⟩
    ·exfalso
     simp only[Bool.true_and,if_true,decide_eq_false_iff_not]at h;omega
 clear hf hf0 hf1 hf2 hL;rintro S H1 ⟨hx,w,out,hw,hw1,hw2,hbest,z,rfl⟩;have hB1:=hB.mono hx;have hl1:=hx.1;have hs4:=(fO hs).1;(try simp only[aA]);repeat' ((first|refine aV ?_|refine aU rfl ?_);(try simp only[aA]))
 refine fX ?_;refine aC (uG (by omega)) ?_;rintro r K ⟨rfl,rfl⟩;obtain⟨j,hj1,hj2⟩:∃j,j≤a+1∧a+1≤j:=⟨_,Nat.le_refl _,Nat.le_refl _⟩;have hje:a+1=j:=by omega
 have eij:(a:Int)+1=(j:Nat):=by omega
 have hjp:j≤p.length:=by omega
 obtain⟨xs,gB,xl,hxs⟩:=hB1.get;have gxj:xs[j]?=some (.slice (some ⟨rb j,0,some 1⟩) 9 9):=hxs j hjp;rw[hje];obtain⟨u4,hu4⟩:∃u4,(c8 s).1=u4:=⟨_,rfl⟩;rw[hu4]at hs4 ⊢;clear hu4;obtain⟨vs,hrow⟩:=hB1.row j hjp;obtain⟨u,hu,hfu⟩:=hrow.at_ u4 (by omega);have gr:=hrow.get;have hvl:=hrow.len;have hRj:=hR.resolve_left id j u4 (by omega) hjp (by omega);obtain⟨b1,o,sp,cap,ps,e,hg,hps,-⟩:=(hv0.mono hx).els 0 (by omega);cases e;have hpx:ps[o+a]?=some (.int .u8 ((p.getD a 0).toNat:Int)):=hps a ha;have hby:byA p a=(p.getD a 0).toNat:=rfl;rw[hby];clear hby;have hqb:=(p.getD a 0).toNat_lt;have ew:IntKind.i64.wrap ((p.getD a 0).toNat:Int)=((p.getD a 0).toNat:Int):=wrap_i64 (by omega) (by omega);generalize (p.getD a 0).toNat=q at *;replace hps:False∨_:=.inr hps;replace hxs:False∨_:=.inr hxs;replace hRj:False∨_:=.inr hRj;have hw0:=hw;obtain⟨aw,cw,rfl⟩:=hw.sl.len;clear hje;(try simp only[aA]);repeat' ((first|refine aV ?_|refine aU rfl ?_);(try simp only[aA]))
 have hxd:=Ext.push K (some [ag 913,ag q]);have gd:Heap.get (K++[some [ag 913,ag q]]) K.length=some [ag 913,ag q]:=aQ _ _;have ge:K++[some [Value.int .i64 913,Value.int .i64 ((q:Nat):Int)]]=K++[some [ag 913,ag q]]:=rfl;rw[ge];clear ge;have hKd:(K++[some [ag 913,ag q]]).length=K.length+1:=by simp
 generalize K++[some [ag 913,ag q]]=G at *;have gB2:=hxd.get gB;have gr2:=hxd.get gr;have h1s:SlN G (.slice (some ⟨K.length,0,none⟩) 2 2) [913,q]:=Sl.whole gd rfl;clear gB gr;refine fX ?_;refine kU (jD (a:=[913,q]) (b:=R j u4) (by omega) h1s ((hfu.mono hxd).sl) (by have:=hRj.resolve_left id;simp;omega)) ?_;rintro r2 K2 ⟨hxK2,k2,hg2⟩;have hx2:=(hx.trans hxd).trans hxK2;have hlK2:=hxK2.1;have hgz:=hg2.lower (show Z≤G.length by omega);have hxlen:([913,q]++R j u4).length≤200000:=by simp only[List.length_append,List.length_cons,List.length_nil];have:=hRj.resolve_left id;omega
 have hxok:∀x ∈ [913,q]++R j u4,x≤928:=by
  intro x hx;rcases List.mem_append.1 hx with h|h
  ·simp at h;omega
  ·exact(hRj.resolve_left id).2 x h
 have hfx:Fz Z K2 r2 ([913,q]++R j u4):=⟨k2,hgz⟩;have hwb:=hw0.mono (hxd.trans hxK2);have hcons:913::q::R j u4=[913,q]++R j u4:=rfl;rw[hcons];generalize [913,q]++R j u4=X at *;obtain⟨ax,cx,rfl⟩:=hfx.sl.len;replace hxok:False∨_:=.inr hxok;clear hg2 hgz hcons gB2 gr2 gd hxs hw hw0 hu hfu hrow hB1 gxj eij;(try simp only[aA]);repeat' ((first|refine aV ?_|refine aU rfl ?_);(try simp only[aA]))
 refine fX ?_;refine aC (o9 hfx.sl hwb.sl (by omega) (by omega) (fun x hx=>by have:=hxok.resolve_left id x hx;omega) (fun x hx=>by have:=hw2.resolve_left id x hx;omega)) ?_;rintro r K3 ⟨rfl,t,rfl,ht1,ht2⟩;have hbest:=hbest.resolve_left id;have hfin:=fun h=>hbest.take (ht1 h);have hfin2:=fun h=>hbest.stay (ht2 h);clear ht1 ht2;replace hfin:False∨_:=.inr hfin;replace hfin2:False∨_:=.inr hfin2;clear hbest;(try simp only[aA]);refine fU (fun h=>?_) (fun h=>?_)
 ·have hfin:=hfin.resolve_left id h
  clear h hfin2;replace hfin:False∨_:=.inr hfin;(try simp only[aA]);repeat' ((first|refine aV ?_|refine aU rfl ?_);(try simp only[aA]))
  refine fQ ?_;exact⟨hx2,X,hfx,hfin.resolve_left id⟩
 ·have hfin2:=hfin2.resolve_left id h
  clear h hfin;replace hfin2:False∨_:=.inr hfin2;(try simp only[aA]);repeat' ((first|refine aV ?_|refine aU rfl ?_);(try simp only[aA]))
  refine fQ ?_;exact⟨hx2,out,hwb,hfin2.resolve_left id⟩
end Go.Proofs.YtgpolmomghejoaaDoor
