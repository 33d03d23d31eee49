/- Lemmas. -/
import Derived.Test.YtmnlgdpdgjbfgaaGreatE10
import Derived.Test.YtmnlgdpdgjbfgaaGreatE16
set_option linter.unusedVariables false
set_option linter.unusedSimpArgs false
set_option linter.unusedSectionVars false
namespace Go.Proofs.YtmnlgdpdgjbfgaaGreat
open Go.Abs Go.RS
set_option maxRecDepth 20000
section
variable {f:FD}[OkC f]
def dcC(f:FD)(be bl r b n bw bE s:Nat)(vv vs vl vp:Value):List Value:=
 [.int .i64 (FD.ch f:Nat),.int .i64 (f.q:Nat),.slice (some ⟨be,0,none⟩) (f.q-1) (f.q-1),.slice (some ⟨bl,0,none⟩) f.q f.q,
  .int .i64 (FD.ch f:Nat),.int .i64 (f.q:Nat),.int .i64 (f.poly:Nat),.int .i64 r,.int .i64 b,
  .slice (some ⟨bw,0,some 1⟩) n n,.slice (some ⟨bE,0,none⟩) n n,.int .i64 s,vv,vs,vl,vp]
def erL(n:Nat)(er:Nat→Bool):List Value:=(List.range n).map fun i=>.bool (er i)
theorem th(n:Nat)(er:Nat→Bool):(erL n er).length=n:=by simp[erL]
theorem yP{n:Nat}{er:Nat→Bool}{i:Nat}(h:i<n):(erL n er)[i]?=some (.bool (er i)):=by simp[erL,h]
structure Dc (H:Heap)(g:El f)(d be bl r b bw bE s:Nat)(w:List (El f))(er:Nat→Bool)(vv vs vl vp:Value):Prop where
 box:H.get d=some (dcC f be bl r b w.length bw bE s vv vs vl vp)
 ar:ArH H g be bl
 word:H.get bw=some (elL w)
 eras:H.get bE=some (erL w.length er)
 h1:be<bw
 h2:bl<bw
 h3:bw<bE
 h4:bE<d
variable {lo:Nat}{H:Heap}{g:El f}{d be bl r b bw bE s:Nat}{w:List (El f)}{er:Nat→Bool}{vv vs vl vp:Value}
theorem Dc.mono{H':Heap}(h:Dc H g d be bl r b bw bE s w er vv vs vl vp)(e:Ext H H'):Dc H' g d be bl r b bw bE s w er vv vs vl vp:=
 ⟨e.get h.box,h.ar.mono e,e.get h.word,e.get h.eras,h.h1,h.h2,h.h3,h.h4⟩
theorem Dc.keep{H':Heap}{vv' vs' vl' vp':Value}(h:Dc H g d be bl r b bw bE s w er vv vs vl vp)(e:Keep d H H')(hb:H'.get d=some (dcC f be bl r b w.length bw bE s vv' vs' vl' vp')):Dc H' g d be bl r b bw bE s w er vv' vs' vl' vp':=by
 have h1:=h.h1
 have h2:=h.h2
 have h3:=h.h3
 have h4:=h.h4
 exact⟨hb,h.ar.keep e (by omega) (by omega),e.get h.word (by omega),e.get h.eras (by omega),h1,h2,h3,h4⟩
theorem dF{H H':Heap}(h:Ext H H')(d:Nat)(x:Option (List Value)):Keep d H (H'.set d x):=⟨by simpa using h.1,fun i hi hne=>by rw[aM (Ne.symm hne)];exact h.2 i hi⟩
theorem cT{b:Nat}{A B C:Heap}(h:Keep b A B)(k:Keep b B C):Keep b A C:=⟨Nat.le_trans h.len k.len,fun i hi hne=>(k.eq i (Nat.lt_of_lt_of_le hi h.len) hne).trans (h.eq i hi hne)⟩
theorem cY{b:Nat}{A B:Heap}(h:Ext A B):Keep b A B:=⟨h.1,fun i hi _=>h.2 i hi⟩
theorem IE{d:Nat}{H L:Heap}{x:Option (List Value)}:Keep d H (H.set d x++L):=⟨by simp,fun i hi hne=>by rw[ef (by simpa using hi),aM (Ne.symm hne)]⟩
theorem FG{d:Nat}{H L:Heap}{c:List Value}(h:d<H.length):Heap.get (H.set d (some c)++L) d=some c:=by rw[ef (by simpa using h),aI h]
theorem Dh{d:Nat}{H L:Heap}{x:Option (List Value)}{c:List Value}:Heap.get (H.set d x++(some c::L)) H.length=some c:=by
 have:=aN (H:=H.set d x) (c:=c) (L:=L)
 rwa [List.length_set]at this
set_option linter.defProp false in
def xS:=And.intro @Int.cast_ofNat_Int (And.intro @fv.eq_1 (And.intro @fvf.eq_1 (And.intro @ite_self.{1} (And.intro @iI (And.intro @iE (And.intro @iA (And.intro @cdC.eq_1 (And.intro @arC.eq_1 (And.intro @dcC.eq_1 (And.intro @iL (And.intro @bM (And.intro @eI (And.intro @fJ (And.intro @yP @th))))))))))))))
theorem fi{P:Prop}(h:P:=by simp(disch:=first|omega|(simp only[aK];omega))only[evB,xS,Nat.reduceAdd,Nat.reduceBEq, *];rfl):P:=h
theorem br{cp:FuncId→Option CF}{lo:Nat}{l:List (Nat×E)}{chk:List E}{Q:aS}{S:List Value}{H:Heap}{vs:List (Nat×Value)}{S':List Value}(k:Q .normal S' H)(h:evSets S H l=some vs:=by exact fi)(hc:evChk S H chk=true:=by simp(disch:=first|omega|(simp only[aK];omega))only[evB,xS,Nat.reduceAdd,Nat.reduceBEq, *])(hS:setAll S vs=S':=by exact fi):wpS cp lo (.sets l chk) Q S H:=cL h hc hS k
theorem eX{cp:FuncId→Option CF}{lo:Nat}{l:List (Nat×E)}{chk:List E}{Q:aS}{S:List Value}{H:Heap}{vs:List (Nat×Value)}{dst:Option Nat}{o:HOp}{a:E}{xs:List Value}(k:wpH cp lo o xs H fun v H'=>Q .normal (setD (setAll S vs) dst v) H')(h:evSets S H l=some vs:=by exact fi)(hc:evChk S H chk=true:=by simp(disch:=first|omega|(simp only[aK];omega))only[evB,xS,Nat.reduceAdd,Nat.reduceBEq, *])(ha:ev S H a=some xs:=by exact fi):wpS cp lo (.hv l chk [] dst o a) Q S H:=eC h hc ha k
theorem bq{cp:FuncId→Option CF}{lo:Nat}{l:List (Nat×E)}{chk:List E}{Q:aS}{S:List Value}{H:Heap}{vs:List (Nat×Value)}{dst:Option Nat}{o:HOp}{a:E}{xs:List Value}{S':List Value}{H':Heap}{v:Value}(hcall:o.isCall=false)(k:Q .normal S' H')(h:evSets S H l=some vs:=by exact fi)(hc:evChk S H chk=true:=by simp(disch:=first|omega|(simp only[aK];omega))only[evB,xS,Nat.reduceAdd,Nat.reduceBEq, *])(ha:ev S H a=some xs:=by exact fi)(ho:bG lo o xs H=some (v,H'):=by exact fi)(hS:setD (setAll S vs) dst v=S':=by exact fi):wpS cp lo (.hv l chk [] dst o a) Q S H:=eG hcall h hc ha ho hS k
theorem iB{cp:FuncId→Option CF}{lo:Nat}{c:E}{a b:Stm}{Q:aS}{S:List Value}{H:Heap}{t:Bool}(k1:t=true→wpS cp lo a Q S H)(k2:t=false→wpS cp lo b Q S H)(h:ev1 S H c=some (.bool t):=by exact fi):wpS cp lo (.cond c a b) Q S H:=cJ h k1 k2
theorem kY{cf:CF}{R:Value→Heap→Prop}{S:List Value}{H:Heap}{vs:List Value}(k:R (aJ vs) H)(h:evList S H cf.res=some vs:=by exact fi):aG cf R .ret S H:=bT h k
theorem uR(hd:Dc H g d be bl r b bw bE s w er vv vs vl vp)(hwl:w.length≤100000000)(i:Nat)(hi:i<w.length):Ev cp lo 165 [.pointer (some ⟨d,0,none⟩),.int .i64 i] H (fun v H'=>H'=H∧v=.int .i64 ((w.length-1-i:Nat):Int)):=by
 have g0:=hd.box
 have hcast:((w.length-1-i:Nat):Int)=(w.length:Int)-1-i:=by omega
 rw[hcast]
 clear hcast hd
 refine RN ?_;unfold D0 uu;simp only[kB,aA]
 repeat' ((first|refine br ?_|refine bq rfl ?_);(try simp only[aA]))
 refine kY ?_
 exact⟨rfl,rfl⟩
set_option maxHeartbeats 1000000 in
theorem E5(hlo:lo≤d)(hg:Gn (OkC.ok (f:=f)) g)(hd:Dc H g d be bl r b bw bE s w er vv vs vl vp)(hwl:w.length≤100000000)(hr:r≤100000000)(hb:b≤100000000) :
  Ev cp lo 116 [.pointer (some ⟨d,0,none⟩)] H (fun v H'=>v=.bool (decide (s≤r))∧Keep d H H'∧∃vv',Dc H' g d be bl r b bw bE s w er vv' vs vl vp∧SlE H' vv' (eN g r b w)∧NewV H.length vv'):=by
 have g0:=hd.box
 have hl:=Heap.get_lt g0
 refine OE ?_;unfold Cw wo;simp only[kB,aA]
 repeat' ((first|refine br ?_|refine bq rfl ?_);(try simp only[aA]))
 refine eX ?_
 refine aC (qI (by omega) hg hd.ar (aY (sp:=some 1) hd.word rfl) hwl r b hr hb) ?_
 rintro v H1 ⟨hx1,bb,hbb,rfl,f1⟩
 have hd1:=hd.mono hx1
 have g0:=hd1.box
 have hl1:=Heap.get_lt g0
 (try simp only[aA])
 repeat' ((first|refine br ?_|refine bq rfl ?_);(try simp only[aA]))
 refine kY ?_
 have hk:Keep d H (H1.set d (some (dcC f be bl r b w.length bw bE s (.slice (some ⟨bb,0,none⟩) r r) vs vl vp))):=dF hx1 _ _
 refine⟨by simp[aJ],hk,_,hd.keep hk (aI (by omega)),?_,NewV.mk hbb⟩
 exact aY (by rw[aM (by omega)];exact f1) (aE _ _)
theorem FY(p:List (El f))(X:El f):lZ p p 1 X=tab (p.length+1) (cv (lin X) (co p)):=by
 unfold lZ
 rw[show max p.length (p.length+1)=p.length+1 by omega]
 refine aP fun i hi=>?_
 cases i with
 | zero=>rw[n8,kH _ (by omega)];exact(show((co p 0)-((X)*0))=(co p 0) from aj [(co p 0),(X)] (.add (.v 0) (.neg (.mul (.v 1) .zero))) (.v 0) rfl)
 | succ i=>rw[mY,fw _ (by omega),Nat.add_sub_cancel]
theorem ga{n:Nat}{F:Ser (El f)}(h:∀i,n≤i→F i=0):co (tab n F)=F:=by
 funext i
 rw[bS]
 split
 ·rfl
 ·exact(h i (by omega)).symm
theorem oz(X:Nat→El f)(er:Nat→Bool)(n:Nat):∀i,sC er n+1≤i→gam X er n i=0:=by
 intro i hi
 rw[sg]
 exact dS _ i (by unfold sC at hi;rw[List.length_map];omega)
theorem iW(er:Nat→Bool)(n:Nat):sC er (n+1)=sC er n+if er n=true then 1 else 0:=by
 unfold sC
 rw[bK,List.length_append]
 cases er n<;>rfl
theorem fS(er:Nat→Bool):∀n,sC er n≤n
 | 0=>Nat.le_refl _
 | n+1=>by have:=fS er n;rw[iW];split<;>omega
set_option maxHeartbeats 2000000 in
theorem LA(hlo:lo≤d)(hg:Gn (OkC.ok (f:=f)) g)(hd:Dc H g d be bl r b bw bE s w er vv vs vl vp)(hwl:w.length≤10000000) :
  Ev cp lo 117 [.pointer (some ⟨d,0,none⟩)] H (fun v H'=>v=.bool true∧Keep d H H'∧∃vs',Dc H' g d be bl r b bw bE s w er vv vs' vl vp∧SlE H' vs' (tab (sC er w.length+1) (gam (plc g w.length) er w.length))∧NewV H.length vs'):=by
 have g0:=hd.box
 have hl:=Heap.get_lt g0
 have k1:=hd.h1
 have k2:=hd.h2
 have k3:=hd.h3
 have k4:=hd.h4
 refine Ry ?_;unfold Du vk;simp only[kB,aA]
 repeat' ((first|refine br ?_|refine bq rfl ?_);(try simp only[aA]))
 generalize hG:List.set H d _++_=G at *
 have hkG:Keep d H G:=by rw[←hG];exact IE
 have g1:Heap.get G d=some (dcC f be bl r b w.length bw bE s vv (.slice (some ⟨H.length,0,none⟩) 1 1) vl vp):=by rw[←hG];exact FG hl
 have g2:Heap.get G H.length=some (elL (tab 1 (s1:Ser (El f)))):=by rw[←hG,Dh];rfl
 clear hG
 refine aU (fun i S H'=>Keep d H H'∧∃bs,H.length≤bs∧Heap.get H' d=some (dcC f be bl r b w.length bw bE s vv (.slice (some ⟨bs,0,none⟩) (sC er i+1) (sC er i+1)) vl vp)∧Heap.get H' bs=some (elL (tab (sC er i+1) (gam (plc g w.length) er i)))∧∃(z:Nat→Value),S=[.pointer (some ⟨d,0,none⟩),.bool false,z 2,z 3,z 4,z 5,.slice (some ⟨bE,0,none⟩) w.length w.length,.int .i64 (w.length:Nat),.int .i64 (i:Nat),z 9,z 10,z 11,z 12,z 13,z 14,z 15,z 16]) w.length ?_ ?_ ?_ ?_
 ·exact⟨hkG,H.length,Nat.le_refl _,g1,g2,aL rfl⟩
 ·rintro i S H' hi ⟨hk,bs,hbs,f1,f2,z,rfl⟩
  exact⟨_,fi,by simp⟩
 ·clear g0 g1 g2 hkG
  rintro i S H1 hi ⟨hk,bs,hbs,f1,f2,z,rfl⟩
  have hd1:=hd.keep hk f1
  have ge:=hd1.eras
  have hsl:=fS er i
  have hss:=iW er i
  have hgs:gam (plc g w.length) er (i+1)=if er i=true then cv (lin (plc g w.length i)) (gam (plc g w.length) er i) else gam (plc g w.length) er i:=rfl
  (try simp only[aA])
  repeat' ((first|refine br ?_|refine bq rfl ?_);(try simp only[aA]))
  refine iB (fun h=>?_) (fun h=>?_)
  ·rw[h,if_pos rfl]at hss hgs
   rw[hss,hgs]
   clear h hss hgs
   (try simp only[aA])
   refine eX ?_
   refine aQ (uR hd1 (by omega) i hi) ?_
   rintro v H2 ⟨rfl,rfl⟩
   (try simp only[aA])
   refine eX ?_
   refine aQ (nv hg hd1.ar (w.length-1-i) (by omega)) ?_
   rintro v H2 ⟨hx2,rfl⟩
   have hd2:=hd1.mono hx2
   have f1:=(hx2).get f1;have f2:=(hx2).get f2
   have hl1:=hk.len
   have hl2:=hx2.1
   have hle:=aY (sp:=none) f2 (aE _ _)
   (try simp only[aA])
   refine eX ?_
   refine aC (zc (n:=1) (by omega) hg hd2.ar hle hle (by rw[aE];omega) (by rw[aE];omega) (by omega) (plc g w.length i)) ?_
   rintro v H3 ⟨hx3,b3,hb3,rfl,f3⟩
   have hxl:=hx3.1
   rw[FY,ga (oz _ _ _),aE]at f3 ⊢
   rw[aE]
   have f1:=(hx3).get f1
   clear hle
   (try simp only[aA])
   repeat' ((first|refine br ?_|refine bq rfl ?_);(try simp only[aA]))
   refine⟨cT hk (dF (hx2.trans hx3) _ _),b3,by omega,aI (by omega),?_,aL (by first|rfl|(simp only[Int.natCast_add,Int.natCast_one];rfl)|simp only[Int.natCast_add,Int.natCast_one])⟩
   rw[aM (by omega)];exact f3
  ·rw[h,if_neg (by simp)]at hss hgs
   rw[hss,hgs]
   clear h hss hgs
   (try simp only[aA])
   repeat' ((first|refine br ?_|refine bq rfl ?_);(try simp only[aA]))
   exact⟨hk,bs,hbs,f1,f2,aL (by first|rfl|(simp only[Int.natCast_add,Int.natCast_one];rfl)|simp only[Int.natCast_add,Int.natCast_one])⟩
 ·rintro S H1 ⟨hk,bs,hbs,f1,f2,z,rfl⟩
  (try simp only[aA])
  repeat' ((first|refine br ?_|refine bq rfl ?_);(try simp only[aA]))
  refine kY ?_
  exact⟨rfl,hk,_,hd.keep hk f1,aY f2 (aE _ _),NewV.mk hbs⟩
theorem xO{b1 r s:Nat}{l:List (El f)}(h:H.get b1=some (elL l))(hl:l.length=r)(hs:s≤r):SlE H (.slice (some ⟨b1,if r=s then 0 else s,none⟩) (r-s) (r-s)) (l.drop s):=by
 have hlen:(l.drop s).length=r-s:=by rw[List.length_drop,hl]
 refine .inr ⟨b1,_,none,r-s,_,by rw[hlen],h,?_,?_,.inl rfl,by omega⟩
 ·rw[hlen]
  split
  ·rename_i e
   rw[←e,Nat.sub_self,List.take_zero,List.drop_of_length_le (by omega)];rfl
  ·rw[List.take_of_length_le (by rw[List.length_drop,bM];omega)]
   unfold elL
   rw[List.map_drop]
 ·rw[hlen,bM];split<;>omega
theorem GF(s:List (El f)):te s=EZ s:=rfl
set_option maxHeartbeats 1000000 in
theorem IV(hlo:lo≤d)(hg:Gn (OkC.ok (f:=f)) g)(hd:Dc H g d be bl r b bw bE (sC er w.length) w er vv vs vl vp)(hwl:w.length≤10000000)(hr:r≤10000000)(hsr:sC er w.length≤r)(hv:SlE H vv (eN g r b w))(hs:SlE H vs (tab (sC er w.length+1) (gam (plc g w.length) er w.length))) :
  Ev cp lo 118 [.pointer (some ⟨d,0,none⟩)] H (fun v H'=>v=.bool (decide (2*((cF (plc g w.length) er w.length r (syS g r b w)).length-1)+sC er w.length≤r))∧Keep d H H'∧∃vl',Dc H' g d be bl r b bw bE (sC er w.length) w er vv vs vl' vp∧SlE H' vl' (cF (plc g w.length) er w.length r (syS g r b w))∧NewV H.length vl'):=by
 have g0:=hd.box
 have hl:=Heap.get_lt g0
 have hsw:=fS er w.length
 refine RT ?_;unfold EF wh;simp only[kB,aA]
 repeat' ((first|refine br ?_|refine bq rfl ?_);(try simp only[aA]))
 refine eX ?_
 refine aC (qs (by omega) hg hd.ar hv hs (by unfold eN;rw[aE];omega) (by rw[aE];omega) r (by omega)) ?_
 rintro v H1 ⟨hx1,b1,hb1,rfl,f1⟩
 have hd1:=hd.mono hx1
 have g0:=hd1.box
 have hl1:=Heap.get_lt g0
 rw[ga (oz _ _ _)]at f1
 have hsub:((r:Int)-(sC er w.length:Nat))=((r-sC er w.length:Nat):Int):=by omega
 (try simp only[aA])
 repeat' ((first|refine br ?_|refine bq rfl ?_);(try simp only[aA]))
 refine eX ?_
 have hlo1:lo≤H1.length:=by omega
 refine aC (GG hlo1 hg hd1.ar (xO f1 (aE _ _) hsr) (by rw[List.length_drop,aE];omega)) ?_
 rintro v H2 ⟨hx2,hlam,hnew⟩
 have hlam:SlE H2 v (cF (plc g w.length) er w.length r (syS g r b w)):=hlam
 have hone:=tJ (plc g w.length) er w.length r (syS g r b w)
 have hpos:1≤(cF (plc g w.length) er w.length r (syS g r b w)).length:=by
  apply Decidable.byContradiction
  intro hc
  rw[eT (by omega)]at hone
  exact gM hone.symm
 have hmax:(cF (plc g w.length) er w.length r (syS g r b w)).length≤20000000:=by
  refine Nat.le_trans (ic _) ?_
  rw[aE]
  have:=(mD (co (fT (plc g w.length) er w.length r (syS g r b w))) (fT (plc g w.length) er w.length r (syS g r b w)).length).1
  rw[gk]at this
  rw[gk]
  omega
 clear hone
 generalize cF (plc g w.length) er w.length r (syS g r b w)=lam at *
 have hd2:=hd1.mono hx2
 have g0:=hd2.box
 have hl2:=Heap.get_lt g0
 obtain⟨al,cl',rfl⟩:=hlam.len
 clear hsub
 (try simp only[aA])
 repeat' ((first|refine br ?_|refine bq rfl ?_);(try simp only[aA]))
 refine kY ?_
 have hk:Keep d H (H2.set d (some (dcC f be bl r b w.length bw bE (sC er w.length) vv vs (.slice al lam.length cl') vp))):=dF (hx1.trans hx2) _ _
 have hk2:Keep d H2 (H2.set d (some (dcC f be bl r b w.length bw bE (sC er w.length) vv vs (.slice al lam.length cl') vp))):=dF (Ext.refl _) _ _
 refine⟨?_,hk,_,hd.keep hk (aI (by omega)),dY hlam hnew hk2 (by omega),hnew.mono hx1.1⟩
 have e:((2*((lam.length:Int)-1)+(sC er w.length:Nat)≤(r:Int))↔(2*(lam.length-1)+sC er w.length≤r)):=by omega
 simp only[aJ,e]
end
section
variable {f:FD}[OkC f]{lo:Nat}{H:Heap}{g:El f}{d be bl r b bw bE s:Nat}{w:List (El f)}{er:Nat→Bool}{vv vs vl vp:Value}
def iU(l:List Nat):List Value:=l.map fun i=>.int .i64 (i:Nat)
theorem j0(l:List Nat):(iU l).length=l.length:=by simp[iU]
theorem qu{g:El f}{r b:Nat}{w:List (El f)}:(∀k,k<r→co (eN g r b w) k=0)↔kL g r b w:=by
 constructor
 ·intro h k hk
  have:=h k hk
  unfold eN at this
  rwa [bS,if_pos hk]at this
 ·intro h k hk
  unfold eN
  rw[bS,if_pos hk]
  exact h k hk
set_option maxHeartbeats 1000000 in
theorem MB(hlo:lo≤H.length)(hg:Gn (OkC.ok (f:=f)) g)(hd:Dc H g d be bl r b bw bE s w er vv vs vl vp)(hwl:w.length≤10000000)(hr:r≤10000000)(hb:b≤10000000) :
  Ev cp lo 121 [.pointer (some ⟨d,0,none⟩)] H (fun v H'=>Ext H H'∧∃t,v=.bool t∧(t=true↔kL g r b w)):=by
 have g0:=hd.box
 have hl:=Heap.get_lt g0
 rw[←qu]
 refine Qi ?_;unfold DF wS;simp only[kB,aA]
 repeat' ((first|refine br ?_|refine bq rfl ?_);(try simp only[aA]))
 refine eX ?_
 refine aC (qI hlo hg hd.ar (aY (sp:=some 1) hd.word rfl) (by omega) r b (by omega) (by omega)) ?_
 rintro v H1 ⟨hx1,bb,hbb,rfl,f1⟩
 have hsl:(eN g r b w).length=r:=aE _ _
 have hsl':r≤(eN g r b w).length∧(eN g r b w).length≤r:=by omega
 clear hsl
 generalize eN g r b w=sy at *
 (try simp only[aA])
 repeat' ((first|refine br ?_|refine bq rfl ?_);(try simp only[aA]))
 refine aU (fun i S H'=>H1=H'∧(∀k,k<i→co sy k=0)∧∃(z:Nat→Value),S=[.pointer (some ⟨d,0,none⟩),.bool false,z 2,.slice (some ⟨bb,0,none⟩) r r,.int .i64 (r:Nat),.int .i64 (i:Nat)]) r ?_ ?_ ?_ ?_
 ·exact⟨rfl,by omega,aL rfl⟩
 ·rintro i S H' hi ⟨rfl,-,z,rfl⟩
  exact⟨_,fi,by simp⟩
 ·rintro i S H' hi ⟨rfl,hall,z,rfl⟩
  (try simp only[aA])
  repeat' ((first|refine br ?_|refine bq rfl ?_);(try simp only[aA]))
  refine iB (fun h=>?_) (fun h=>?_)
  ·have hne:¬ ∀k,k<r→co sy k=0:=by
    intro hz
    have:=hz i hi
    unfold co at this
    rw[this,jZ]at h
    simp at h
   clear h
   (try simp only[aA])
   repeat' ((first|refine br ?_|refine bq rfl ?_);(try simp only[aA]))
   refine kY ?_
   exact⟨hx1,false,rfl,by simp[hne]⟩
  ·have hz:co sy i=0:=by
    apply Decidable.byContradiction
    intro hc
    have:=eH hc
    unfold co at this
    simp at h this
    omega
   clear h
   (try simp only[aA])
   repeat' ((first|refine br ?_|refine bq rfl ?_);(try simp only[aA]))
   refine⟨by trivial,fun k hk=>?_,aL (by first|rfl|(simp only[Int.natCast_add,Int.natCast_one];rfl)|simp only[Int.natCast_add,Int.natCast_one])⟩
   by_cases e:k=i
   ·rw[e];exact hz
   ·exact hall k (by omega)
 ·rintro S H' ⟨rfl,hall,z,rfl⟩
  (try simp only[aA])
  repeat' ((first|refine br ?_|refine bq rfl ?_);(try simp only[aA]))
  refine kY ?_
  exact⟨hx1,true,rfl,by simp;exact hall⟩
theorem xK{d bp:Nat}{H A B:Heap}(h:Keep d H A)(k:Keep bp A B)(hb:H.length≤bp):Keep d H B:=⟨Nat.le_trans h.len k.len,fun i hi hne=>(k.eq i (Nat.lt_of_lt_of_le hi h.len) (by omega)).trans (h.eq i hi hne)⟩
theorem fj{d:Nat}{H A:Heap}(h:Keep d H A)(x:Option (List Value)):Keep d H (A.set d x):=cT h (dF (Ext.refl _) d x)
theorem wD(hg:Gn (OkC.ok (f:=f)) g){n i:Nat}(hn:n≤f.q-1)(hi:i<n):pw g (f.q-1-(n-1-i))=inv (plc g n i):=by
 unfold plc
 exact(Fz (cU hg).2.1 (by omega)).symm
set_option maxHeartbeats 4000000 in
theorem IY(hlo:lo≤d)(hg:Gn (OkC.ok (f:=f)) g){lam:List (El f)}(hd:Dc H g d be bl r b bw bE s w er vv vs vl (.slice none 0 0))(hwl:w.length≤f.q-1)(hlam:SlE H vl lam)(hnew:NewV (d+1) vl)(hll:lam.length≤20000000)(hl1:1≤lam.length) :
  Ev cp lo 119 [.pointer (some ⟨d,0,none⟩)] H (fun v H'=>v=.bool (decide ((sel (isR (plc g w.length) er lam) w.length).length=lam.length-1))∧Keep d H H'∧∃vp' bp,Dc H' g d be bl r b bw bE s w er vv vs vl vp'∧H.length≤bp∧Own lo 1 H' vp' bp (iU (sel (an (plc g w.length) er lam) w.length))):=by
 have g0:=hd.box
 have hl:=Heap.get_lt g0
 have hq:=qle (f:=f)
 have k1:=hd.h1
 have k2:=hd.h2
 have k3:=hd.h3
 have k4:=hd.h4
 obtain⟨al,cl',rfl⟩:=hlam.len
 refine Nv ?_;unfold DU uh;simp only[kB,aA]
 repeat' ((first|refine br ?_|refine bq rfl ?_);(try simp only[aA]))
 refine aU (fun i S H'=>Keep d H H'∧∃vp' bp,H.length≤bp∧Heap.get H' d=some (dcC f be bl r b w.length bw bE s vv vs (.slice al lam.length cl') vp')∧Own lo 1 H' vp' bp (iU (sel (an (plc g w.length) er lam) i))∧∃(z:Nat→Value),S=[.pointer (some ⟨d,0,none⟩),.bool false,.int .i64 ((sel (isR (plc g w.length) er lam) i).length:Nat),z 3,z 4,z 5,.slice (some ⟨bE,0,none⟩) w.length w.length,.int .i64 (w.length:Nat),.int .i64 (i:Nat),z 9,z 10,z 11,z 12,z 13,z 14,z 15,z 16,z 17,z 18,z 19,z 20,z 21,z 22]) w.length ?_ ?_ ?_ ?_
 ·exact⟨cY (Ext.refl _),_,H.length,Nat.le_refl _,g0,Own.nil (by omega),aL rfl⟩
 ·rintro i S H' hi ⟨hk,vp',bp,hbp,f1,hown,z,rfl⟩
  exact⟨_,fi,by simp⟩
 ·clear g0
  rintro i S H1 hi ⟨hk,vp',bp,hbp,f1,hown,z,rfl⟩
  have hd1:=hd.keep hk f1
  have ge:=hd1.eras
  have hlam1:=dY hlam hnew hk (by omega)
  have hs1:=bK (isR (plc g w.length) er lam) i
  have hs2:=bK (an (plc g w.length) er lam) i
  have hs3:(sel (isR (plc g w.length) er lam) i).length≤i:=fS _ i
  have hs4:(sel (an (plc g w.length) er lam) i).length≤i:=fS _ i
  have hl1:=hk.len
  (try simp only[aA])
  repeat' ((first|refine br ?_|refine bq rfl ?_);(try simp only[aA]))
  refine eX ?_
  refine aQ (uR hd1 (by omega) i hi) ?_
  rintro v H2 ⟨rfl,rfl⟩
  have hsub:((f.q:Int)-1-((w.length-1-i:Nat):Int))=((f.q-1-(w.length-1-i):Nat):Int):=by omega
  (try simp only[aA])
  refine eX ?_
  refine aC (nv hg hd1.ar (f.q-1-(w.length-1-i)) (by omega)) ?_
  rintro v H3 ⟨hx3,rfl⟩
  rw[wD hg hwl hi]
  have hd3:=hd1.mono hx3
  have hlam3:=hlam1.mono hx3
  have hown:=hown.mono hx3
  have f1:=(hx3).get f1;have ge:=(hx3).get ge
  have hl3:=hx3.1
  clear hsub
  (try simp only[aA])
  repeat' ((first|refine br ?_|refine bq rfl ?_);(try simp only[aA]))
  cases he:er i with
  | true=>
   have hb:an (plc g w.length) er lam i=true:=by unfold an;rw[he];rfl
   have hi0:isR (plc g w.length) er lam i=false:=by unfold isR;rw[he];rfl
   rw[hb,if_pos rfl]at hs2
   rw[hi0,if_neg (by simp),List.append_nil]at hs1
   rw[hs1]
   have hsl:iU (sel (an (plc g w.length) er lam) (i+1))=iU (sel (an (plc g w.length) er lam) i)++[.int .i64 (i:Nat)]:=by rw[hs2];simp[iU]
   clear hb hi0 hs1 hs2
   refine au (t:=false) (fi) (by simp(disch:=first|omega|(simp only[aK];omega))only[evB,xS,Nat.reduceAdd,Nat.reduceBEq, *]) (by simp(disch:=first|omega|(simp only[aK];omega))only[evB,xS,Nat.reduceAdd,Nat.reduceBEq, *];try rfl) (fun h=>by cases h) (fun _=>?_)
   (try simp only[aA])
   refine iB (fun h=>?_) (fun h=>?_)
   ·cases h
   clear h
   (try simp only[aA])
   refine iB (fun h=>?_) (fun h=>?_)
   case refine_2=>cases h
   clear h
   (try simp only[aA])
   repeat' ((first|refine br ?_|refine bq rfl ?_);(try simp only[aA]))
   refine eX ?_
   refine dR (c:=[.int .i64 (i:Nat)]) (hown.mono (Ext.app _ _)) (by simp;omega) (by omega) (by omega) (by rw[j0];omega) aN (by simp) rfl rfl ?_
   rintro v' H4 hown4 hk4 hl4
   have hE:=Ext.app H3 [some [Value.int .i64 (i:Nat)]]
   have f1:=hk4.get (hE.get f1) (by omega)
   simp only[List.length_append,List.length_cons,List.length_nil]at hown4
   have hk5:=xK (cT hk (cY (hx3.trans hE))) hk4 hbp
   have hl4:d<H4.length:=Heap.get_lt f1
   obtain⟨a4,n4,rfl,-,-⟩:=hown4.len (by omega)
   (try simp only[aA])
   repeat' ((first|refine br ?_|refine bq rfl ?_);(try simp only[aA]))
   refine⟨fj hk5 _,_,H3.length+(0+1),by omega,aI hl4,?_,aL (by first|rfl|(simp only[Int.natCast_add,Int.natCast_one];rfl)|simp only[Int.natCast_add,Int.natCast_one])⟩
   rw[hsl]
   exact hown4.keep (dF (Ext.refl _) _ _) (by omega)
  | false=>
   refine au (t:=true) (fi) (by simp(disch:=first|omega|(simp only[aK];omega))only[evB,xS,Nat.reduceAdd,Nat.reduceBEq, *]) (by simp(disch:=first|omega|(simp only[aK];omega))only[evB,xS,Nat.reduceAdd,Nat.reduceBEq, *];try rfl) (fun _=>⟨_,fi,?_⟩) (fun h=>by cases h)
   refine aC (yz (by omega) hg hd3.ar hlam3 (by omega) (inv (plc g w.length i))) ?_
   rintro v H5 ⟨hx5,rfl⟩
   have hown:=hown.mono hx5
   have f1:=(hx5).get f1
   have hl5:=hx5.1
   have hx5:=hx3.trans hx5
   by_cases hz:hor lam (inv (plc g w.length i))=0
   ·have hb:an (plc g w.length) er lam i=true:=by unfold an isR;rw[he,decide_eq_true hz];rfl
    have hi0:isR (plc g w.length) er lam i=true:=by unfold isR;rw[he,decide_eq_true hz];rfl
    rw[hb,if_pos rfl]at hs2
    rw[hi0,if_pos rfl]at hs1
    have hsl:iU (sel (an (plc g w.length) er lam) (i+1))=iU (sel (an (plc g w.length) er lam) i)++[.int .i64 (i:Nat)]:=by rw[hs2];simp[iU]
    have hlen:(sel (isR (plc g w.length) er lam) (i+1)).length=(sel (isR (plc g w.length) er lam) i).length+1:=by rw[hs1];simp
    rw[hz,jZ,hlen]
    clear hb hi0 hs1 hs2 hlen
    (try simp only[aA])
    refine iB (fun h=>?_) (fun h=>?_)
    case refine_2=>simp at h
    clear h
    (try simp only[aA])
    repeat' ((first|refine br ?_|refine bq rfl ?_);(try simp only[aA]))
    refine eX ?_
    refine dR (c:=[.int .i64 (i:Nat)]) (hown.mono (Ext.app _ _)) (by simp;omega) (by omega) (by omega) (by rw[j0];omega) aN (by simp) rfl rfl ?_
    rintro v' H4 hown4 hk4 hl4
    have hE:=Ext.app H5 [some [Value.int .i64 (i:Nat)]]
    have f1:=hk4.get (hE.get f1) (by omega)
    simp only[List.length_append,List.length_cons,List.length_nil]at hown4
    have hk5:=xK (cT hk (cY (hx5.trans hE))) hk4 hbp
    have hl4:d<H4.length:=Heap.get_lt f1
    obtain⟨a4,n4,rfl,-,-⟩:=hown4.len (by omega)
    (try simp only[aA])
    repeat' ((first|refine br ?_|refine bq rfl ?_);(try simp only[aA]))
    refine⟨fj hk5 _,_,H5.length+(0+1),by omega,aI hl4,?_,aL (by first|rfl|(simp only[Int.natCast_add,Int.natCast_one];rfl)|simp only[Int.natCast_add,Int.natCast_one])⟩
    rw[hsl]
    exact hown4.keep (dF (Ext.refl _) _ _) (by omega)
   ·have hb:an (plc g w.length) er lam i=false:=by unfold an isR;rw[he,decide_eq_false hz];rfl
    have hi0:isR (plc g w.length) er lam i=false:=by unfold isR;rw[he,decide_eq_false hz];rfl
    have hnz:=eH hz
    rw[hb,if_neg (by simp),List.append_nil]at hs2
    rw[hi0,if_neg (by simp),List.append_nil]at hs1
    rw[hs1,hs2]
    clear hb hi0 hs1 hs2
    (try simp only[aA])
    refine iB (fun h=>?_) (fun h=>?_)
    ·simp at h;omega
    clear h
    (try simp only[aA])
    refine iB (fun h=>?_) (fun h=>?_)
    ·cases h
    clear h
    (try simp only[aA])
    repeat' ((first|refine br ?_|refine bq rfl ?_);(try simp only[aA]))
    exact⟨cT hk (cY hx5),vp',bp,hbp,f1,hown,aL (by first|rfl|(simp only[Int.natCast_add,Int.natCast_one];rfl)|simp only[Int.natCast_add,Int.natCast_one])⟩
 ·rintro S H1 ⟨hk,vp',bp,hbp,f1,hown,z,rfl⟩
  have hs3:(sel (isR (plc g w.length) er lam) w.length).length≤w.length:=fS _ _
  (try simp only[aA])
  repeat' ((first|refine br ?_|refine bq rfl ?_);(try simp only[aA]))
  refine kY ?_
  refine⟨?_,hk,vp',bp,hd.keep hk f1,hbp,hown⟩
  have e:(((sel (isR (plc g w.length) er lam) w.length).length:Int)=(lam.length:Int)-1)↔((sel (isR (plc g w.length) er lam) w.length).length=lam.length-1):=by omega
  simp only[aJ,e]
end
section
variable {f:FD}[OkC f]{lo:Nat}{H:Heap}{g:El f}{d be bl r b bw bE s:Nat}{w:List (El f)}{er:Nat→Bool}{vv vs vl vp:Value}
def qQ(i:Nat):Value:=.int .i64 (i:Nat)
theorem Dc.word'{H':Heap}{w':List (El f)}(h:Dc H g d be bl r b bw bE s w er vv vs vl vp)(e:Keep bw H H')(hl:w'.length=w.length)(hw:H'.get bw=some (elL w')):Dc H' g d be bl r b bw bE s w' er vv vs vl vp:=by
 have h1:=h.h1
 have h2:=h.h2
 have h3:=h.h3
 have h4:=h.h4
 exact⟨by rw[hl];exact e.get h.box (by omega),h.ar.keep e (by omega) (by omega),hw,by rw[hl];exact e.get h.eras (by omega),h1,h2,h3,h4⟩
noncomputable def eR(w:List (El f))(P:List Nat)(E:Nat→El f)(j:Nat):List (El f):=tab w.length (fun i=>if i ∈ P.take j then co w i-E i else co w i)
theorem lK(w:List (El f))(P:List Nat)(E:Nat→El f)(j:Nat):(eR w P E j).length=w.length:=aE _ _
theorem pO(w:List (El f))(P:List Nat)(E:Nat→El f):eR w P E 0=w:=by
 unfold eR
 simp[uV]
theorem du{P:List Nat}{j:Nat}(hj:j<P.length)(i:Nat):i ∈ P.take (j+1)↔i ∈ P.take j∨i=P.getD j 0:=by
 rw[List.take_add_one,List.mem_append,List.getElem?_eq_getElem hj,List.getD_eq_getElem?_getD,List.getElem?_eq_getElem hj]
 simp
theorem tV{P:List Nat}(hP:P.Nodup){j:Nat}(hj:j<P.length):P.getD j 0 ∉ P.take j:=by
 rw[List.getD_eq_getElem?_getD,List.getElem?_eq_getElem hj]
 intro h
 obtain⟨k,hk,e⟩:=List.getElem_of_mem h
 rw[List.length_take]at hk
 rw[List.getElem_take]at e
 exact List.pairwise_iff_getElem.1 (List.nodup_iff_pairwise_ne.1 hP) k j (by omega) hj (by omega) e
theorem Gb{w:List (El f)}{P:List Nat}{E:Nat→El f}{j:Nat}(hP:P.Nodup)(hb:∀i ∈ P,i<w.length)(hj:j<P.length):(eR w P E j).getD (P.getD j 0) 0=co w (P.getD j 0):=by
 have hm:P.getD j 0 ∈ P:=by rw[List.getD_eq_getElem?_getD,List.getElem?_eq_getElem hj];exact List.getElem_mem hj
 unfold eR
 rw[de (hb _ hm),if_neg (tV hP hj)]
theorem rM{w:List (El f)}{P:List Nat}{E:Nat→El f}{j:Nat}(hj:j<P.length):(eR w P E j).set (P.getD j 0) (co w (P.getD j 0)-E (P.getD j 0))=eR w P E (j+1):=by
 unfold eR
 rw[eQ]
 refine aP fun i _=>?_
 by_cases e:i=P.getD j 0
 ·rw[if_pos e,if_pos ((du hj i).2 (.inr e)),e]
 ·rw[if_neg e]
  by_cases h:i ∈ P.take j
  ·rw[if_pos h,if_pos ((du hj i).2 (.inl h))]
  ·rw[if_neg h,if_neg (fun h2=>((du hj i).1 h2).elim h e)]
theorem DN(N:Nat)(F:Ser (El f))(hF:∀i,N≤i→F i=0):K4 (tab N F)=tab (N-1) (der F):=by
 unfold K4
 rw[aE,ga hF]
 rfl
set_option maxHeartbeats 4000000 in
theorem EA(hlo:lo≤bw)(hg:Gn (OkC.ok (f:=f)) g){P:List Nat}{lam:List (El f)}{Γ S:Ser (El f)}(hd:Dc H g d be bl r b bw bE s w er vv vs vl vp)(hwl:w.length≤f.q-1)(hr:r≤10000000)(hbb:b≤10000000)
  (hv:SlE H vv (tab r S)) (hs:SlE H vs (tab (s+1) Γ)) (hs0:s≤100000) (hΓ:∀i,s+1≤i→Γ i=0) (hlam:SlE H vl lam) (hl1:1≤lam.length) (hl2:lam.length≤20000000) (hp:Sl qQ H vp P) (hpn:NewV (d+1) vp)
  (hP:P.Nodup) (hPb:∀i ∈ P,i<w.length) (hboth:cv Γ (co lam)=aT (P.map (plc g w.length))) (hPl:P.length=s+(lam.length-1)) :
  Ev cp lo 120 [.pointer (some ⟨d,0,none⟩)] H (fun v H'=>v=.bool true∧Keep bw H H'∧Dc H' g d be bl r b bw bE s (eR w P (nH (plc g w.length) b r S P) P.length) er vv vs vl vp):=by
 have hPl':P.length≤s+(lam.length-1)∧s+(lam.length-1)≤P.length:=by omega
 clear hPl
 have g0:=hd.box
 have hl:=Heap.get_lt g0
 have hq:=qle (f:=f)
 have k1:=hd.h1
 have k2:=hd.h2
 have k3:=hd.h3
 have k4:=hd.h4
 have hlins:=dS (P.map (plc g w.length))
 rw[List.length_map]at hlins
 obtain⟨as',cs',rfl⟩:=hs.len
 obtain⟨al,cl',rfl⟩:=hlam.len
 obtain⟨ap,cp',rfl⟩:=hp.len
 have hN:((tab (s+1) Γ).length:Int)+(lam.length:Int)-1=((P.length+1:Nat):Int):=by rw[aE];omega
 have htl:(tab (s+1) Γ).length=s+1:=aE _ _
 have htl':(tab (s+1) Γ).length≤s+1∧s+1≤(tab (s+1) Γ).length:=by omega
 clear htl
 refine OW ?_;unfold FB uv;simp only[kB,aA]
 repeat' ((first|refine br ?_|refine bq rfl ?_);(try simp only[aA]))
 refine eX ?_
 refine aC (qs (by omega) hg hd.ar hs hlam (by omega) (by omega) (P.length+1) (by omega)) ?_
 rintro v H1 ⟨hx1,b1,hb1,rfl,f1⟩
 rw[ga hΓ,hboth]at f1
 have hd1:=hd.mono hx1
 have g0:=hd1.box
 have hl1':=hx1.1
 clear hN
 (try simp only[aA])
 repeat' ((first|refine br ?_|refine bq rfl ?_);(try simp only[aA]))
 refine eX ?_
 refine aC (qs (by omega) hg hd1.ar (hv.mono hx1) (aY (sp:=none) f1 (aE _ _)) (by rw[aE];omega) (by rw[aE];omega) r (by omega)) ?_
 rintro v H2 ⟨hx2,b2,hb2,rfl,f2⟩
 rw[ga (F:=aT (P.map (plc g w.length))) (fun i hi=>hlins i (by omega))]at f2
 have hd2:=hd1.mono hx2
 have g0:=hd2.box
 have hl2':=hx2.1
 have f1:=hx2.get f1
 rw[aP (G:=cv S (aT (P.map (plc g w.length)))) (fun k hk=>jS (fun i hi=>by rw[bS,if_pos (by omega)]) (fun _ _=>rfl))]at f2
 (try simp only[aA])
 repeat' ((first|refine br ?_|refine bq rfl ?_);(try simp only[aA]))
 refine eX ?_
 refine aC (wL (by omega) hg hd2.ar (aY (sp:=none) f1 (aE _ _)) (by rw[aE];omega) (by rw[aE];omega)) ?_
 rintro vd H3 ⟨hx3,hsl,hnd⟩
 rw[DN _ _ (fun i hi=>hlins i (by omega)),Nat.add_sub_cancel]at hsl
 have hd3:=hd2.mono hx3
 have g0:=hd3.box
 have hl3':=hx3.1
 have f2:=hx3.get f2
 have hev:=aY (sp:=none) f2 (aE _ _)
 have hx3:=(hx1.trans hx2).trans hx3
 have hp3:=hp.mono hx3
 have hDs:1≤P.length→∀x,hor (tab P.length (der (aT (List.map (plc g w.length) P)))) x=pv (der (aT (List.map (plc g w.length) P))) (P.length-1) x:=fun h x=>yg _ _ h
 have hDl:(tab P.length (der (aT (List.map (plc g w.length) P)))).length≤100000000:=by rw[aE];omega
 generalize tab P.length (der (aT (List.map (plc g w.length) P)))=Ds at *
 obtain⟨ad,cd',rfl⟩:=hsl.len
 have hnd:=hnd.mono (show d+1≤H2.length by omega)
 have hcor:=fun i hi=>TI (b:=b) (r:=r) (S:=S) (eY hg) (cU hg) hwl hP hPb (i:=i) hi
 generalize aT (P.map (plc g w.length))=LP at *
 generalize hE:nH (plc g w.length) b r S P=E at *
 clear f1 f2 hboth hE
 have hEl:(tab r (cv S LP)).length=r:=aE _ _
 generalize tab r (cv S LP)=Ev' at *
 have hEl':Ev'.length≤r∧r≤Ev'.length:=by omega
 clear hEl
 (try simp only[aA])
 repeat' ((first|refine br ?_|refine bq rfl ?_);(try simp only[aA]))
 refine aU (fun j S H'=>Keep bw H3 H'∧Heap.get H' bw=some (elL (eR w P E j))∧∃(z:Nat→Value),S=[.pointer (some ⟨d,0,none⟩),.bool false,z 2,.slice (some ⟨b2,0,none⟩) r r,.slice ad Ds.length cd',z 5,z 6,z 7,z 8,z 9,z 10,z 11,.slice ap P.length cp',.int .i64 (P.length:Nat),.int .i64 (j:Nat),z 15,z 16,z 17,z 18,z 19,z 20,z 21,z 22,z 23,z 24,z 25,z 26,z 27,z 28,z 29,z 30,z 31,z 32,z 33,z 34,z 35]) P.length ?_ ?_ ?_ ?_
 ·exact⟨cY (Ext.refl _),by rw[pO];exact hd3.word,aL rfl⟩
 ·rintro j S' H' hj ⟨hk,f1,z,rfl⟩
  exact⟨_,fi,by simp⟩
 ·clear g0
  rintro j S' H4 hj ⟨hk,f1,z,rfl⟩
  have hd4:=hd3.word' hk (lK w P E j) f1
  have hp4:=dY hp3 hpn hk (by omega)
  have hsl4:=dY hsl hnd hk (by omega)
  have hev4:=dY hev (NewV.mk (show d+1≤b2 by omega)) hk (by omega)
  have g0:=hd4.box
  have hl4:=hk.len
  obtain⟨xb,xo,xsp,xc,xs,e,gx,hat,hxl⟩:=hp4.els 0 (by omega)
  cases e
  have hati:=hat j hj
  have hm:P.getD j 0 ∈ P:=by rw[List.getD_eq_getElem?_getD,List.getElem?_eq_getElem hj];exact List.getElem_mem hj
  have hlt:=hPb _ hm
  have hwa:=Gb (w:=w) (E:=E) hP hPb hj
  have hws:=rM (w:=w) (E:=E) hj
  obtain⟨hc1,hc2⟩:=hcor _ hm
  have hD:=hDs (by omega) (inv (plc g w.length (P.getD j 0)))
  have hwl2:=lK w P E j
  have hwl3:(eR w P E j).length≤w.length∧w.length≤(eR w P E j).length:=by omega
  clear hat hwl2
  generalize P.getD j 0=i at *
  generalize eR w P E j=wj at *
  unfold qQ at hati
  rw[←hD]at hc1 hc2
  clear hD hcor hDs
  have hmul:((w.length-1-i:Nat):Int)*((b:Int)+(f.q:Nat)-2)=(((w.length-1-i)*(b+(f.q-1-1)):Nat):Int):=by
   rw[Int.natCast_mul]
   congr 1
   omega
  have hM:(w.length-1-i)*(b+(f.q-1-1))≤1000000000000:=Nat.le_trans (Nat.mul_le_mul (show w.length-1-i≤4096 by omega) (show b+(f.q-1-1)≤20000000 by omega)) (by omega)
  have hk2:w.length-1-i≤4096:=by omega
  have hri:=wD hg hwl hlt
  have hsub:((f.q:Int)-1-((w.length-1-i:Nat):Int))=((f.q-1-(w.length-1-i):Nat):Int):=by omega
  have hri2:f.q-1-(w.length-1-i)≤1000000000000:=by omega
  have hwj:wj.length-1-i=w.length-1-i:=by omega
  generalize (w.length-1-i)*(b+(f.q-1-1))=M at *
  generalize f.q-1-(w.length-1-i)=R at *
  generalize plc g w.length i=X at *
  generalize w.length-1-i=k at *
  (try simp only[aA])
  repeat' ((first|refine br ?_|refine bq rfl ?_);(try simp only[aA]))
  refine eX ?_
  refine aQ (uR hd4 (by omega) i (by omega)) ?_
  rintro v H5 ⟨rfl,rfl⟩
  rw[hwj]
  (try simp only[aA])
  refine eX ?_
  refine aC (nv hg hd4.ar R hri2) ?_
  rintro v H5 ⟨hx5,rfl⟩
  rw[hri]
  have hd5:=hd4.mono hx5
  have f1:=(hx5).get f1;have gx:=(hx5).get gx;have g0:=(hx5).get g0
  have hsl5:=hsl4.mono hx5
  have hev5:=hev4.mono hx5
  (try simp only[aA])
  repeat' ((first|refine br ?_|refine bq rfl ?_);(try simp only[aA]))
  refine eX ?_
  refine aQ (uR hd5 (by omega) i (by omega)) ?_
  rintro v H6 ⟨rfl,rfl⟩
  rw[hwj]
  (try simp only[aA])
  refine eX ?_
  refine aC (nv hg hd5.ar M hM) ?_
  rintro v H6 ⟨hx6,rfl⟩
  have hd6:=hd5.mono hx6
  have f1:=(hx6).get f1;have gx:=(hx6).get gx;have g0:=(hx6).get g0
  have hsl6:=hsl5.mono hx6
  have hev6:=hev5.mono hx6
  have hl6:=hx5.1
  have hl6':=hx6.1
  clear hsub hmul hwj
  (try simp only[aA])
  repeat' ((first|refine br ?_|refine bq rfl ?_);(try simp only[aA]))
  refine eX ?_
  refine aQ (yz (by omega) hg hd6.ar hsl6 (by omega) (inv X)) ?_
  rintro v H7 ⟨hx7,rfl⟩
  have hd7:=hd6.mono hx7
  have f1:=(hx7).get f1;have gx:=(hx7).get gx;have g0:=(hx7).get g0
  have hev7:=hev6.mono hx7
  have hl7':=hx7.1
  (try simp only[aA])
  refine eX ?_
  refine aC (mulR hg hd7.ar (pw g M) (hor Ds (inv X))) ?_
  rintro v H8 ⟨hx8,rfl⟩
  have hd8:=hd7.mono hx8
  have f1:=(hx8).get f1;have gx:=(hx8).get gx;have g0:=(hx8).get g0
  have hev8:=hev7.mono hx8
  have hl8':=hx8.1
  have hcn:=eH hc1
  (try simp only[aA])
  repeat' ((first|refine br ?_|refine bq rfl ?_);(try simp only[aA]))
  refine iB (fun h=>?_) (fun h=>?_)
  ·exfalso;simp at h;omega
  clear h
  (try simp only[aA])
  refine eX ?_
  refine aQ (yz (by omega) hg hd8.ar hev8 (by omega) (inv X)) ?_
  rintro v H9 ⟨hx9,rfl⟩
  have hd9:=hd8.mono hx9
  have f1:=(hx9).get f1;have gx:=(hx9).get gx;have g0:=(hx9).get g0
  have hl9':=hx9.1
  (try simp only[aA])
  refine eX ?_
  refine aQ (NG hg hd9.ar (hor Ev' (inv X)) (pw g M*hor Ds (inv X)) hc1) ?_
  rintro v H10 ⟨hx10,rfl⟩
  rw[hc2]
  have hd10:=hd9.mono hx10
  have f1:=(hx10).get f1;have gx:=(hx10).get gx;have g0:=(hx10).get g0
  have hl10':=hx10.1
  (try simp only[aA])
  refine eX ?_
  refine aQ (Ca (co w i) (-E i)) ?_
  rintro v H11 ⟨hx11,rfl⟩
  have hd11:=hd10.mono hx11
  have f1:=(hx11).get f1;have gx:=(hx11).get gx;have g0:=(hx11).get g0
  have hl11':=hx11.1
  have hws2:wj.set i (co w i+-E i)=eR w P E (j+1):=hws
  have hlb:=Heap.get_lt f1
  clear hws
  (try simp only[aA])
  repeat' ((first|refine br ?_|refine bq rfl ?_);(try simp only[aA]))
  have hxx:=((((((hx5.trans hx6).trans hx7).trans hx8).trans hx9).trans hx10).trans hx11)
  refine⟨cT hk (dF hxx _ _),?_,aL (by first|rfl|(simp only[Int.natCast_add,Int.natCast_one];rfl)|simp only[Int.natCast_add,Int.natCast_one])⟩
  rw[aI hlb]
 ·rintro S' H4 ⟨hk,f1,z,rfl⟩
  (try simp only[aA])
  repeat' ((first|refine br ?_|refine bq rfl ?_);(try simp only[aA]))
  refine kY ?_
  exact⟨rfl,cT (cY hx3) hk,hd3.word' hk (lK _ _ _ _) f1⟩
end
section
variable {f:FD}[OkC f]{lo:Nat}{H:Heap}{g:El f}{d be bl r b bw bE s:Nat}{w:List (El f)}{er:Nat→Bool}{vv vs vl vp:Value}
def Low(m:Nat)(H H':Heap):Prop:=H.length≤H'.length∧∀i,i<m→i<H.length→H'.get i=H.get i
theorem Low.trans{m:Nat}{A B C:Heap}(h:Low m A B)(k:Low m B C):Low m A C:=⟨Nat.le_trans h.1 k.1,fun i hi hl=>(k.2 i hi (Nat.lt_of_lt_of_le hl h.1)).trans (h.2 i hi hl)⟩
theorem Low.keep{m b:Nat}{A B:Heap}(h:Keep b A B)(hb:m≤b):Low m A B:=⟨h.len,fun i hi hl=>h.eq i hl (by omega)⟩
theorem Low.ext{m:Nat}{A B:Heap}(h:Ext A B):Low m A B:=⟨h.1,fun i _ hl=>h.2 i hl⟩
theorem Low.toExt{m:Nat}{A B C:Heap}(h:Ext A B)(k:Low m B C)(hm:A.length≤m):Ext A C:=⟨Nat.le_trans h.1 k.1,fun i hi=>(k.2 i (by omega) (Nat.lt_of_lt_of_le hi h.1)).trans (h.2 i hi)⟩
theorem rq(g:El f)(r b:Nat)(w:List (El f))(er:Nat→Bool):eR w (sel (an (plc g w.length) er (cF (plc g w.length) er w.length r (syS g r b w))) w.length) (nH (plc g w.length) b r (syS g r b w) (sel (an (plc g w.length) er (cF (plc g w.length) er w.length r (syS g r b w))) w.length)) (sel (an (plc g w.length) er (cF (plc g w.length) er w.length r (syS g r b w))) w.length).length=fD g r b w er:=by
 unfold eR fD
 refine aP fun i hi=>?_
 rw[List.take_length]
 by_cases h:an (plc g w.length) er (cF (plc g w.length) er w.length r (syS g r b w)) i=true
 ·rw[if_pos h,if_pos (bg.2 ⟨hi,h⟩)]
 ·rw[if_neg h,if_neg (fun h2=>h (bg.1 h2).2)]
def nl:Value:=.slice none 0 0
def DA(H:Heap)(g:El f)(d be bl r b bw bE:Nat)(w:List (El f))(er:Nat→Bool):Nat→Prop
 | 0=>Dc H g d be bl r b bw bE (sC er w.length) w er nl nl nl nl
 | 1=>sC er w.length≤r∧∃vv,Dc H g d be bl r b bw bE (sC er w.length) w er vv nl nl nl∧SlE H vv (eN g r b w)∧NewV (d+1) vv
 | 2=>sC er w.length≤r∧∃vv vs,Dc H g d be bl r b bw bE (sC er w.length) w er vv vs nl nl∧SlE H vv (eN g r b w)∧NewV (d+1) vv∧SlE H vs (tab (sC er w.length+1) (gam (plc g w.length) er w.length))∧NewV (d+1) vs
 | 3=>sC er w.length≤r∧2*((cF (plc g w.length) er w.length r (syS g r b w)).length-1)+sC er w.length≤r∧∃vv vs vl,Dc H g d be bl r b bw bE (sC er w.length) w er vv vs vl nl∧SlE H vv (eN g r b w)∧NewV (d+1) vv∧SlE H vs (tab (sC er w.length+1) (gam (plc g w.length) er w.length))∧NewV (d+1) vs∧SlE H vl (cF (plc g w.length) er w.length r (syS g r b w))∧NewV (d+1) vl
 | 4=>sC er w.length≤r∧2*((cF (plc g w.length) er w.length r (syS g r b w)).length-1)+sC er w.length≤r∧(sel (isR (plc g w.length) er (cF (plc g w.length) er w.length r (syS g r b w))) w.length).length=(cF (plc g w.length) er w.length r (syS g r b w)).length-1∧∃vv vs vl vp,Dc H g d be bl r b bw bE (sC er w.length) w er vv vs vl vp∧SlE H vv (eN g r b w)∧NewV (d+1) vv∧SlE H vs (tab (sC er w.length+1) (gam (plc g w.length) er w.length))∧NewV (d+1) vs∧SlE H vl (cF (plc g w.length) er w.length r (syS g r b w))∧NewV (d+1) vl∧Sl qQ H vp (sel (an (plc g w.length) er (cF (plc g w.length) er w.length r (syS g r b w))) w.length)∧NewV (d+1) vp
 | 5=>sC er w.length≤r∧2*((cF (plc g w.length) er w.length r (syS g r b w)).length-1)+sC er w.length≤r∧(sel (isR (plc g w.length) er (cF (plc g w.length) er w.length r (syS g r b w))) w.length).length=(cF (plc g w.length) er w.length r (syS g r b w)).length-1∧∃vv vs vl vp,Dc H g d be bl r b bw bE (sC er w.length) (fD g r b w er) er vv vs vl vp
 | _=>DecOK g r b w er∧∃vv vs vl vp,Dc H g d be bl r b bw bE (sC er w.length) (fD g r b w er) er vv vs vl vp
theorem tW(X:Nat→El f)(er:Nat→Bool)(n r:Nat)(S:Ser (El f)):1≤(cF X er n r S).length:=by
 have hone:=tJ X er n r S
 apply Decidable.byContradiction
 intro hc
 rw[eT (by omega)]at hone
 exact gM hone.symm
def Jn(k:Nat):FuncId:=match k with|0=>116|1=>117|2=>118|3=>119|4=>120|_=>121
theorem Qa(hlo:lo≤bw)(hg:Gn (OkC.ok (f:=f)) g)(hwl:w.length≤f.q-1)(hr:r≤10000000)(hb:b≤10000000){k:Nat}(hk:k<6)(h:DA H g d be bl r b bw bE w er k) :
  Ev cp lo (Jn k) [.pointer (some ⟨d,0,none⟩)] H (fun v H'=>∃t,v=.bool t∧(∀i,i<H.length→i≠d→i≠bw→H'.get i=H.get i)∧H.length≤H'.length∧(t=true→DA H' g d be bl r b bw bE w er (k+1))∧(t=false→¬ DecOK g r b w er)):=by
 have hq:=qle (f:=f)
 have hsw:=fS er w.length
 have hX:=ej (eY hg) (cU hg) hwl
 match k,hk with
 | 0,_=>
  have hd:Dc H g d be bl r b bw bE (sC er w.length) w er nl nl nl nl:=h
  have hl:=Heap.get_lt hd.box
  have h1:=hd.h3
  have h2:=hd.h4
  refine(E5 (by omega) hg hd (by omega) (by omega) (by omega)).mono ?_
  rintro v H' ⟨rfl,hk,vv',hd',hs,hn⟩
  refine⟨_,rfl,fun i hi hne _=>hk.eq i hi hne,hk.len,fun ht=>⟨by simpa using ht,vv',hd',hs,hn.mono (by omega)⟩,fun ht hok=>?_⟩
  have:=hok.few
  simp at ht;omega
 | 1,_=>
  obtain⟨c1,vv,hd,hs,hn⟩:=h
  have hl:=Heap.get_lt hd.box
  have h1:=hd.h3
  have h2:=hd.h4
  refine(LA (by omega) hg hd (by omega)).mono ?_
  rintro v H' ⟨rfl,hk,vs',hd',hs2,hn2⟩
  exact⟨_,rfl,fun i hi hne _=>hk.eq i hi hne,hk.len,fun _=>⟨c1,vv,vs',hd',dY hs hn hk (by omega),hn,hs2,hn2.mono (by omega)⟩,fun ht=>by cases ht⟩
 | 2,_=>
  obtain⟨c1,vv,vs,hd,hs,hn,hs2,hn2⟩:=h
  have hl:=Heap.get_lt hd.box
  have h1:=hd.h3
  have h2:=hd.h4
  refine(IV (by omega) hg hd (by omega) (by omega) c1 hs hs2).mono ?_
  rintro v H' ⟨rfl,hk,vl',hd',hs3,hn3⟩
  refine⟨_,rfl,fun i hi hne _=>hk.eq i hi hne,hk.len,fun ht=>⟨c1,by simpa using ht,vv,vs,vl',hd',dY hs hn hk (by omega),hn,dY hs2 hn2 hk (by omega),hn2,hs3,hn3.mono (by omega)⟩,fun ht hok=>?_⟩
  have:=hok.cap
  simp at ht;omega
 | 3,_=>
  obtain⟨c1,c2,vv,vs,vl,hd,hs,hn,hs2,hn2,hs3,hn3⟩:=h
  have hl:=Heap.get_lt hd.box
  have h1:=hd.h3
  have h2:=hd.h4
  have hlp:=tW (plc g w.length) er w.length r (syS g r b w)
  refine(IY (by omega) hg hd hwl hs3 hn3 (by omega) hlp).mono ?_
  rintro v H' ⟨rfl,hk,vp',bp,hd',hbp,hown⟩
  refine⟨_,rfl,fun i hi hne _=>hk.eq i hi hne,hk.len,fun ht=>⟨c1,c2,by simpa using ht,vv,vs,vl,vp',hd',dY hs hn hk (by omega),hn,dY hs2 hn2 hk (by omega),hn2,dY hs3 hn3 hk (by omega),hn3,Sl.ofOwn hown,NewV.own hown (by omega)⟩,fun ht hok=>?_⟩
  have:=hok.num
  simp at ht;omega
 | 4,_=>
  obtain⟨c1,c2,c3,vv,vs,vl,vp,hd,hs,hn,hs2,hn2,hs3,hn3,hs4,hn4⟩:=h
  have hl:=Heap.get_lt hd.box
  have h1:=hd.h3
  have h2:=hd.h4
  have hlp:=tW (plc g w.length) er w.length r (syS g r b w)
  have hbl:=FN (X:=plc g w.length) (n:=w.length) (er:=er) (lam:=cF (plc g w.length) er w.length r (syS g r b w))
  refine(EA (S:=syS g r b w) (Γ:=gam (plc g w.length) er w.length) hlo hg hd hwl (by omega) (by omega) (by unfold eN at hs;unfold syS;rw[show tab r (co (tab r fun i=>cZ w (pw g (b+i))))=tab r (fun i=>cZ w (pw g (b+i))) from aP fun i hi=>by rw[bS,if_pos hi]];exact hs) hs2 (by omega) (oz _ _ _) hs3 hlp (by omega) hs4 hn4 (fA _ _) (fun i hi=>(bg.1 hi).1) (BI hX c3) (by rw[hbl,c3];rfl)).mono ?_
  rintro v H' ⟨rfl,hk,hd'⟩
  rw[rq]at hd'
  exact⟨_,rfl,fun i hi _ hne=>hk.eq i hi hne,hk.len,fun _=>⟨c1,c2,c3,_,_,_,_,hd'⟩,fun ht=>by cases ht⟩
 | 5,_=>
  obtain⟨c1,c2,c3,vv,vs,vl,vp,hd⟩:=h
  have hl:=Heap.get_lt hd.box
  have h1:=hd.h3
  have h2:=hd.h4
  refine(MB (by omega) hg hd (by rw[fm];omega) (by omega) (by omega)).mono ?_
  rintro v H' ⟨hx,t,rfl,ht⟩
  refine⟨_,rfl,fun i hi _ _=>hx.2 i hi,hx.1,fun h=>⟨⟨c1,c2,c3,ht.1 h⟩,vv,vs,vl,vp,hd.mono hx⟩,fun h hok=>?_⟩
  have:=ht.2 hok.cw
  rw[h]at this
  cases this
set_option maxHeartbeats 4000000 in
theorem kN(hlo:lo≤bw)(hg:Gn (OkC.ok (f:=f)) g)(hwl:w.length≤f.q-1)(hr:r≤10000000)(hb:b≤10000000)(hd:Dc H g d be bl r b bw bE (sC er w.length) w er nl nl nl nl) :
  Ev cp lo 72 [.pointer (some ⟨d,0,none⟩)] H (fun v H'=>∃t,v=.bool t∧Low bw H H'∧(t=true↔DecOK g r b w er)∧(t=true→∃vv vs vl vp,Dc H' g d be bl r b bw bE (sC er w.length) (fD g r b w er) er vv vs vl vp)):=by
 have hl:=Heap.get_lt hd.box
 have h3:=hd.h3
 have h4:=hd.h4
 refine Tu ?_;unfold LI GR;simp only[kB,aA]
 repeat' ((first|refine br ?_|refine bq rfl ?_);(try simp only[aA]))
 generalize hFL:[Value.func (Fn.func 116) #[Value.pointer (some ⟨d,0,none⟩)] #[],Value.func (Fn.func 117) #[Value.pointer (some ⟨d,0,none⟩)] #[],Value.func (Fn.func 118) #[Value.pointer (some ⟨d,0,none⟩)] #[],Value.func (Fn.func 119) #[Value.pointer (some ⟨d,0,none⟩)] #[],Value.func (Fn.func 120) #[Value.pointer (some ⟨d,0,none⟩)] #[],Value.func (Fn.func 121) #[Value.pointer (some ⟨d,0,none⟩)] #[]]=FL
 have hFL6:FL.length=6:=by rw[←hFL];rfl
 have hFL7:FL.length≤6∧6≤FL.length:=by omega
 have hF:∀k,k<6→FL[k]?=some (.func (.func (Jn k)) #[.pointer (some ⟨d,0,none⟩)] #[]):=by
  intro k hk
  rw[←hFL]
  match k,hk with
  | 0,_=>rfl
  | 1,_=>rfl
  | 2,_=>rfl
  | 3,_=>rfl
  | 4,_=>rfl
  | 5,_=>rfl
 clear hFL hFL6
 generalize hG:H++_=G at *
 have g0:Heap.get G H.length=some FL:=by rw[←hG];exact aN
 have hxG:Ext H G:=by rw[←hG];exact Ext.app _ _
 clear hG
 refine aU (fun k S H'=>Low bw H H'∧Heap.get H' H.length=some FL∧DA H' g d be bl r b bw bE w er k∧∃(z:Nat→Value),S=[.pointer (some ⟨d,0,none⟩),.bool false,z 2,z 3,z 4,.slice (some ⟨H.length,0,none⟩) 6 6,.int .i64 6,.int .i64 (k:Nat),z 8]) 6 ?_ ?_ ?_ ?_
 ·exact⟨Low.ext hxG,g0,hd.mono hxG,aL rfl⟩
 ·rintro k S H' hk ⟨hx,f0,hst,z,rfl⟩
  exact⟨_,fi,by simp;omega⟩
 ·clear g0 hxG
  rintro k S H1 hk ⟨hx,f0,hst,z,rfl⟩
  have hFk:=hF k hk
  clear hF
  (try simp only[aA])
  repeat' ((first|refine br ?_|refine bq rfl ?_);(try simp only[aA]))
  refine eX ?_
  refine aC (Qa hlo hg hwl hr hb hk hst) ?_
  rintro v H2 ⟨t,rfl,h1,h2,h3',h4'⟩
  have hx2:Low bw H H2:=hx.trans ⟨h2,fun i hi hl=>h1 i hl (by omega) (by omega)⟩
  have f0:=(h1 H.length (Heap.get_lt f0) (by omega) (by omega)).trans f0
  cases t with
  | false=>
   have hno:=h4' rfl
   (try simp only[aA])
   refine iB (fun h=>?_) (fun h=>?_)
   case refine_2=>cases h
   clear h
   (try simp only[aA])
   repeat' ((first|refine br ?_|refine bq rfl ?_);(try simp only[aA]))
   refine kY ?_
   exact⟨false,rfl,hx2,by simp[hno],fun h=>by cases h⟩
  | true=>
   have hst2:=h3' rfl
   (try simp only[aA])
   refine iB (fun h=>?_) (fun h=>?_)
   ·cases h
   clear h
   (try simp only[aA])
   repeat' ((first|refine br ?_|refine bq rfl ?_);(try simp only[aA]))
   exact⟨hx2,f0,hst2,aL (by first|rfl|(simp only[Int.natCast_add,Int.natCast_one];rfl)|simp only[Int.natCast_add,Int.natCast_one])⟩
 ·rintro S H1 ⟨hx,f0,hst,z,rfl⟩
  obtain⟨hok,hdd⟩:=hst
  (try simp only[aA])
  repeat' ((first|refine br ?_|refine bq rfl ?_);(try simp only[aA]))
  refine kY ?_
  exact⟨true,rfl,hx,by simp[hok],fun _=>hdd⟩
end
def ny(k:Int):Value:=.tuple #[.agg #[.slice none 0 0,.slice none 0 0],.int .i64 k]
section
variable {lo:Nat}{H:Heap}{ch sz po r b:Int}{v ve:Value}{l e:List Int}
end
def erI(e:List Int)(i:Nat):Bool:=decide ((i:Int) ∈ e)
def inR(n:Nat)(e:List Int):Prop:=∀x ∈ e,0≤x∧x<n
theorem zw{n k:Nat}(er:Nat→Bool)(hk:k<n):(erL n er).set k (.bool true)=erL n (fun j=>er j || decide (j=k)):=by
 apply List.ext_getElem (by simp[erL])
 intro i h1 h2
 rw[List.getElem_set]
 have hi:i<n:=by simpa[erL]using h2
 simp only[erL,List.getElem_map,List.getElem_range]
 by_cases e:k=i
 ·rw[if_pos e,decide_eq_true e.symm,Bool.or_true]
 ·rw[if_neg e,decide_eq_false (Ne.symm e),Bool.or_false]
theorem zH{er:Nat→Bool}{k:Nat}(h:er k=true):(fun j=>er j || decide (j=k))=er:=by
 funext j
 by_cases e:j=k
 ·rw[e,h];rfl
 ·rw[decide_eq_false e,Bool.or_false]
theorem C6{er:Nat→Bool}{k:Nat}(h:er k=false):∀n,k<n→sC (fun j=>er j || decide (j=k)) n=sC er n+1:=by
 have low:∀n,n≤k→sC (fun j=>er j || decide (j=k)) n=sC er n:=by
  intro n
  induction n with
  | zero=>intro _;rfl
  | succ n ih=>intro hn;rw[iW,iW,ih (by omega),decide_eq_false (by omega),Bool.or_false]
 intro n
 induction n with
 | zero=>intro hn;omega
 | succ n ih=>
  intro hn
  rw[iW,iW]
  by_cases e:n=k
  ·rw[e,low k (Nat.le_refl _),h];simp
  ·rw[ih (by omega),decide_eq_false e,Bool.or_false];omega
theorem uc{e:List Int}{i k:Nat}(hi:i<e.length)(hk:e.getD i 0=(k:Int)):erI (e.take (i+1))=fun j=>erI (e.take i) j || decide (j=k):=by
 have hts:e.take (i+1)=e.take i++[(k:Int)]:=by rw[List.take_add_one,←hk,List.getElem?_eq_getElem hi,List.getD_eq_getElem?_getD,List.getElem?_eq_getElem hi];rfl
 funext j
 unfold erI
 rw[hts,Bool.eq_iff_iff]
 have e2:((j:Int)=(k:Int))↔j=k:=by omega
 simp only[List.mem_append,List.mem_singleton,decide_eq_true_eq,Bool.or_eq_true,e2]
theorem xn(e:List Int):∀n,sC (erI (e.take 0)) n=0
 | 0=>rfl
 | n+1=>by rw[iW,xn e n];simp[erI]
section
variable {f:FD}[OkC f]
set_option maxHeartbeats 4000000 in
theorem D1{lo:Nat}{H:Heap}{g:El f}{v ve:Value}{w:List (El f)}{e:List Int}{r b:Nat}(hlo:lo≤H.length)(hg:Gn (OkC.ok (f:=f)) g)(hc:CdOK f r b)(hw:SlE H v w)(hwl:w.length≤10000000)(he:SlI H ve e)(hel:e.length≤10000000) :
  Ev cp lo 36 [cdV f r b,v,ve] H (fun v H'=>Ext H H'∧(¬ inR w.length e→v=ny 1)∧(inR w.length e→¬ (r<w.length∧w.length<f.q)→v=ny 7)∧(inR w.length e→r<w.length→w.length<f.q→¬ DecOK g r b w (erI e)→v=ny 17)
   ∧ (inR w.length e→r<w.length→w.length<f.q→DecOK g r b w (erI e)→∃vw vc,v=.tuple #[.agg #[vw,vc],.int .i64 0]∧SlE H' vw (fD g r b w (erI e))∧Sl qQ H' vc (sel (fun i=>decide (co (fD g r b w (erI e)) i≠co w i)) w.length)∧NewV H.length vw∧NewV H.length vc)):=by
 have h2:=qle (f:=f)
 have hw0:=hw
 have he0:=he
 have hok:=pB hc
 obtain⟨c1,c2,c3⟩:=hc
 obtain⟨aw,cw,rfl⟩:=hw.len
 obtain⟨ae,ce,rfl⟩:=he.len
 unfold cdV
 refine Se ?_;unfold MO Gi;simp only[kB,aA]
 repeat' ((first|refine br ?_|refine bq rfl ?_);(try simp only[aA]))
 refine eX ?_
 refine aC (uT (ch:=FD.ch f) (sz:=f.q) (po:=f.poly) (r:=r) (b:=b) (gW (OkC.ok (f:=f))) (lN (hw0.mono (Ext.app _ _))) (by rw[fO];omega)) ?_
 rintro v H1 ⟨hx1,t,rfl,ht⟩
 have g0:H1.get H.length=some _:=hx1.get (fi)
 have g1:H1.get (H.length+1)=some _:=hx1.get (fi)
 have hx1:=hx1.of_app
 have htt:t=true:=ht.2 ⟨hok,gq w⟩
 subst htt
 have hl1:=Heap.get_lt g1
 (try simp only[aA])
 refine iB (fun h=>?_) (fun h=>?_)
 ·cases h
 clear h ht
 (try simp only[aA])
 repeat' ((first|refine br ?_|refine bq rfl ?_);(try simp only[aA]))
 refine kl (fun S H'=>H1=H'∧inR w.length e∧∃i z0 z5 z6 z7 z8 z9 z10 z11 z15 z16 z17 z18 z19 z20 z21 z22 z23 z24 z25 z26 z27 z28 z29 z30 z31,S=[z0,.slice aw w.length cw,.slice ae e.length ce,.pointer (some ⟨H.length,0,none⟩),.pointer (some ⟨H.length+1,0,none⟩),z5,z6,z7,z8,z9,z10,z11,.slice ae e.length ce,.int .i64 (e.length:Nat),.int .i64 (i:Nat),z15,z16,z17,z18,z19,z20,z21,z22,z23,z24,z25,z26,z27,z28,z29,z30,z31]) ?_ ?_
 ·refine aU (fun i S H'=>H1=H'∧inR w.length (e.take i)∧∃z0 z5 z6 z7 z8 z9 z10 z11 z15 z16 z17 z18 z19 z20 z21 z22 z23 z24 z25 z26 z27 z28 z29 z30 z31,S=[z0,.slice aw w.length cw,.slice ae e.length ce,.pointer (some ⟨H.length,0,none⟩),.pointer (some ⟨H.length+1,0,none⟩),z5,z6,z7,z8,z9,z10,z11,.slice ae e.length ce,.int .i64 (e.length:Nat),.int .i64 (i:Nat),z15,z16,z17,z18,z19,z20,z21,z22,z23,z24,z25,z26,z27,z28,z29,z30,z31]) e.length ?_ ?_ ?_ ?_
  ·exact⟨rfl,by simp[inR],_,_,_,_,_,_,_,_,_,_,_,_,_,_,_,_,_,_,_,_,_,_,_,_,_,rfl⟩
  ·rintro i S H' hi ⟨rfl,-,z0,z5,z6,z7,z8,z9,z10,z11,z15,z16,z17,z18,z19,z20,z21,z22,z23,z24,z25,z26,z27,z28,z29,z30,z31,rfl⟩
   exact⟨_,fi,by simp⟩
  ·rintro i S H' hi ⟨rfl,hin,z0,z5,z6,z7,z8,z9,z10,z11,z15,z16,z17,z18,z19,z20,z21,z22,z23,z24,z25,z26,z27,z28,z29,z30,z31,rfl⟩
   obtain⟨xb,xo,xsp,xc,xs,ee,gx,hat,hxl⟩:=(he0.mono hx1).els 0 (by omega)
   cases ee
   have hati:=hat i hi
   have hm:e.getD i 0 ∈ e:=by rw[List.getD_eq_getElem?_getD,List.getElem?_eq_getElem hi];exact List.getElem_mem hi
   have hts:e.take (i+1)=e.take i++[e.getD i 0]:=by rw[List.take_add_one,List.getElem?_eq_getElem hi,List.getD_eq_getElem?_getD,List.getElem?_eq_getElem hi];rfl
   clear hat
   generalize e.getD i 0=x at *
   (try simp only[aA])
   repeat' ((first|refine br ?_|refine bq rfl ?_);(try simp only[aA]))
   refine iB (fun h=>?_) (fun h=>?_)
   ·have hno:¬ inR w.length e:=fun h3=>by have:=h3 _ hm;simp at h;omega
    clear h
    (try simp only[aA])
    repeat' ((first|refine br ?_|refine bq rfl ?_);(try simp only[aA]))
    refine kY ?_
    exact⟨hx1.set (by omega),fun _=>rfl,fun h=>absurd h hno,fun h=>absurd h hno,fun h=>absurd h hno⟩
   ·have hx:0≤x∧x<w.length:=by simp at h;omega
    clear h
    (try simp only[aA])
    repeat' ((first|refine br ?_|refine bq rfl ?_);(try simp only[aA]))
    refine⟨by trivial,?_,_,_,_,_,_,_,_,_,_,_,_,_,_,_,_,_,_,_,_,_,_,_,_,_,_,(by first|rfl|(simp only[Int.natCast_add,Int.natCast_one];rfl)|simp only[Int.natCast_add,Int.natCast_one])⟩
    intro y hy
    rw[hts]at hy
    rcases List.mem_append.1 hy with h|h
    ·exact hin y h
    ·rw[List.mem_singleton.1 h];exact hx
  ·rintro S H' ⟨rfl,hin,z0,z5,z6,z7,z8,z9,z10,z11,z15,z16,z17,z18,z19,z20,z21,z22,z23,z24,z25,z26,z27,z28,z29,z30,z31,rfl⟩
   rw[List.take_length]at hin
   exact⟨rfl,hin,e.length,_,_,_,_,_,_,_,_,_,_,_,_,_,_,_,_,_,_,_,_,_,_,_,_,_,rfl⟩
 rintro S H' ⟨rfl,hin,i0,z0,z5,z6,z7,z8,z9,z10,z11,z15,z16,z17,z18,z19,z20,z21,z22,z23,z24,z25,z26,z27,z28,z29,z30,z31,rfl⟩
 (try simp only[aA])
 repeat' ((first|refine br ?_|refine bq rfl ?_);(try simp only[aA]))
 refine eX ?_
 refine aC (O1 (ch:=FD.ch f) (sz:=f.q) (po:=f.poly) (r:=r) (b:=b) (n:=w.length)) ?_
 rintro v H2 ⟨hx2,rfl⟩
 have g0:=(hx2).get g0;have g1:=(hx2).get g1
 have hx2:=hx1.trans hx2
 have hl2:=hx2.1
 (try simp only[aA])
 refine iB (fun h=>?_) (fun h=>?_)
 ·have hno:¬ (r<w.length∧w.length<f.q):=by
   intro hh;simp at h;omega
  clear h
  have hl3:=Heap.get_lt g1
  (try simp only[aA])
  repeat' ((first|refine br ?_|refine bq rfl ?_);(try simp only[aA]))
  refine kY ?_
  exact⟨hx2.set (by omega),fun h=>absurd hin h,fun _ _=>rfl,fun _ h1 h2=>absurd ⟨h1,h2⟩ hno,fun _ h1 h2=>absurd ⟨h1,h2⟩ hno⟩
 have hlong:r<w.length∧w.length<f.q:=by simp at h;omega
 clear h
 (try simp only[aA])
 refine eX ?_
 refine aQ (rR (by omega) hg) ?_
 rintro v H3 ⟨hx3,be,bl,hbe,hbl,rfl,ha⟩
 have g0:=(hx3).get g0;have g1:=(hx3).get g1
 have hl3:=hx3.1
 have hx3:=hx2.trans hx3
 have hw3:=hw0.mono hx3
 have g0h:=g0
 have g1h:=g1
 rcases hw3 with ⟨-,rfl⟩|⟨xb,xo,xsp,xc,xs,ee,gx,hd1,hd2,hd3,hd4⟩
 ·simp at hlong
 cases ee
 unfold arV
 (try simp only[aA])
 refine eX ?_
 refine dR (c:=elL w) (Own.nil (b:=H3.length) (by omega)) (by omega) (by omega) (by omega) (by simp;omega) gx (by omega) (by rw[Nat.mul_one];exact hd1) (pI w) ?_
 rintro v4 H4 hown4 hk4 hl4
 have hx4:Ext H3 H4:=hk4.ext (Ext.refl _) (Nat.le_refl _)
 rw[List.nil_append]at hown4
 obtain⟨-,⟨-,h⟩|⟨m,hm,hml,rfl,gw⟩⟩:=hown4
 ·have:w.length=0:=by rw[←bM w,h];rfl
  omega
 have hmw:m=w.length:=by rw[bM]at hml;omega
 subst hmw
 have g0:=(hx4).get g0;have g1:=(hx4).get g1
 clear hml
 (try simp only[aA])
 repeat' ((first|refine br ?_|refine bq rfl ?_);(try simp only[aA]))
 refine uS (fi) (fi) (.inl rfl) ?_
 have hbl:iO (List.replicate w.length false)=erL w.length (erI (e.take 0)):=by
  simp[iO,erL,erI,List.map_const']
 rw[hbl]
 generalize hG:H4++_=G at *
 have hx5:Ext H4 G:=by rw[←hG];exact Ext.app _ _
 have ge:G.get (H3.length+1)=some (erL w.length (erI (e.take 0))):=by rw[←hG,←hl4];exact aN
 have gd:G.get (H3.length+1+1)=some (dcC f be bl r b w.length H3.length (H3.length+1) (sC (erI (e.take 0)) w.length) nl nl nl nl):=by
  rw[←hG,xn,show H3.length+1+1=H4.length+1 by omega,az]
  rfl
 clear hG hbl
 have hxG:=(hx3.trans hx4).trans hx5
 have ha5:=(ha.mono hx4).mono hx5
 have gw5:=hx5.get gw
 have g0:=(hx5).get g0;have g1:=(hx5).get g1
 have hal:=ha.lt
 have he5:=he0.mono hxG
 have hlG:=hx5.1
 (try simp only[aA])
 repeat' ((first|refine br ?_|refine bq rfl ?_);(try simp only[aA]))
 refine kl (fun S H'=>Low (H3.length+1) G H'∧Heap.get H' (H3.length+1)=some (erL w.length (erI e))∧Heap.get H' (H3.length+1+1)=some (dcC f be bl r b w.length H3.length (H3.length+1) (sC (erI e) w.length) nl nl nl nl)∧∃i z0 z2 z5 z6 z8 z9 z10 z11 z12 z13 z14 z15 z16 z17 z18 z19 z20 z21 z22 z26 z27 z28 z29 z30 z31,S=[z0,.slice (some ⟨xb,xo,xsp⟩) w.length cw,z2,.pointer (some ⟨H.length,0,none⟩),.pointer (some ⟨H.length+1,0,none⟩),z5,z6,.pointer (some ⟨H3.length+1+1,0,none⟩),z8,z9,z10,z11,z12,z13,z14,z15,z16,z17,z18,z19,z20,z21,z22,.slice ae e.length ce,.int .i64 (e.length:Nat),.int .i64 (i:Nat),z26,z27,z28,z29,z30,z31]) ?_ ?_
 ·refine aU (fun i S H'=>Low (H3.length+1) G H'∧Heap.get H' (H3.length+1)=some (erL w.length (erI (e.take i)))∧Heap.get H' (H3.length+1+1)=some (dcC f be bl r b w.length H3.length (H3.length+1) (sC (erI (e.take i)) w.length) nl nl nl nl)∧∃z0 z2 z5 z6 z8 z9 z10 z11 z12 z13 z14 z15 z16 z17 z18 z19 z20 z21 z22 z26 z27 z28 z29 z30 z31,S=[z0,.slice (some ⟨xb,xo,xsp⟩) w.length cw,z2,.pointer (some ⟨H.length,0,none⟩),.pointer (some ⟨H.length+1,0,none⟩),z5,z6,.pointer (some ⟨H3.length+1+1,0,none⟩),z8,z9,z10,z11,z12,z13,z14,z15,z16,z17,z18,z19,z20,z21,z22,.slice ae e.length ce,.int .i64 (e.length:Nat),.int .i64 (i:Nat),z26,z27,z28,z29,z30,z31]) e.length ?_ ?_ ?_ ?_
  ·exact⟨Low.ext (Ext.refl _),ge,gd,_,_,_,_,_,_,_,_,_,_,_,_,_,_,_,_,_,_,_,_,_,_,_,_,_,rfl⟩
  ·rintro i S H' hi ⟨-,-,-,z0,z2,z5,z6,z8,z9,z10,z11,z12,z13,z14,z15,z16,z17,z18,z19,z20,z21,z22,z26,z27,z28,z29,z30,z31,rfl⟩
   exact⟨_,fi,by simp⟩
  ·clear gd ge
   rintro i S H6 hi ⟨k1,k2,k3,z0,z2,z5,z6,z8,z9,z10,z11,z12,z13,z14,z15,z16,z17,z18,z19,z20,z21,z22,z26,z27,z28,z29,z30,z31,rfl⟩
   have hx6:Ext H H6:=Low.toExt hxG k1 (by omega)
   obtain⟨yb,yo,ysp,yc,ys,ee,gy,hat,hyl⟩:=(he0.mono hx6).els 0 (by omega)
   cases ee
   have hati:=hat i hi
   have hm:e.getD i 0 ∈ e:=by rw[List.getD_eq_getElem?_getD,List.getElem?_eq_getElem hi];exact List.getElem_mem hi
   have hxr:=hin _ hm
   obtain⟨k,hk⟩:∃k:Nat,e.getD i 0=(k:Int):=⟨(e.getD i 0).toNat,by omega⟩
   have hsu:=uc hi hk
   have hkl:k<w.length:=by omega
   rw[hk]at hati
   clear hat hk hxr hm
   have hsl:=fS (erI (e.take i)) w.length
   have hl6:=Heap.get_lt k3
   (try simp only[aA])
   repeat' ((first|refine br ?_|refine bq rfl ?_);(try simp only[aA]))
   cases hek:erI (e.take i) k with
   | true=>
    rw[zH hek]at hsu
    rw[hsu]
    clear hsu
    refine iB (fun h=>?_) (fun h=>?_)
    ·cases h
    clear h hek
    (try simp only[aA])
    repeat' ((first|refine br ?_|refine bq rfl ?_);(try simp only[aA]))
    exact⟨k1,k2,k3,_,_,_,_,_,_,_,_,_,_,_,_,_,_,_,_,_,_,_,_,_,_,_,_,_,(by first|rfl|(simp only[Int.natCast_add,Int.natCast_one];rfl)|simp only[Int.natCast_add,Int.natCast_one])⟩
   | false=>
    have hca:=C6 hek w.length hkl
    have hse:=zw (erI (e.take i)) hkl
    rw[←hsu]at hca hse
    clear hsu
    refine iB (fun h=>?_) (fun h=>?_)
    case refine_2=>cases h
    clear h hek
    generalize hq1:sC (erI (e.take (i+1))) w.length=q1 at *
    subst hca
    generalize sC (erI (e.take i)) w.length=q0 at *
    (try simp only[aA])
    repeat' ((first|refine br ?_|refine bq rfl ?_);(try simp only[aA]))
    refine⟨k1.trans (Low.trans (Low.keep (dF (Ext.refl _) _ _) (Nat.le_refl _)) (Low.keep (dF (Ext.refl _) _ _) (by omega))),?_,?_,_,_,_,_,_,_,_,_,_,_,_,_,_,_,_,_,_,_,_,_,_,_,_,_,_,(by first|rfl|(simp only[Int.natCast_add,Int.natCast_one];rfl)|simp only[Int.natCast_add,Int.natCast_one])⟩
    ·rw[aM (by omega),aI (by omega)]
    ·rw[aI (by simp;omega)];rfl
  ·rintro S H' ⟨k1,k2,k3,z0,z2,z5,z6,z8,z9,z10,z11,z12,z13,z14,z15,z16,z17,z18,z19,z20,z21,z22,z26,z27,z28,z29,z30,z31,rfl⟩
   rw[List.take_length]at k2 k3
   exact⟨k1,k2,k3,e.length,_,_,_,_,_,_,_,_,_,_,_,_,_,_,_,_,_,_,_,_,_,_,_,_,_,rfl⟩
 clear gd ge
 rintro S H6 ⟨k1,k2,k3,i6,z0,z2,z5,z6,z8,z9,z10,z11,z12,z13,z14,z15,z16,z17,z18,z19,z20,z21,z22,z26,z27,z28,z29,z30,z31,rfl⟩
 have hx36:Ext H3 H6:=Low.toExt (hx4.trans hx5) k1 (by omega)
 have hd6:Dc H6 g (H3.length+1+1) be bl r b H3.length (H3.length+1) (sC (erI e) w.length) w (erI e) nl nl nl nl:=⟨k3,ha.mono hx36,(k1.2 _ (by omega) (by omega)).trans gw5,k2,hal.1,hal.2,by omega,by omega⟩
 have hx6:Ext H H6:=Low.toExt hxG k1 (by omega)
 (try simp only[aA])
 repeat' ((first|refine br ?_|refine bq rfl ?_);(try simp only[aA]))
 refine eX ?_
 refine aC (kN (by omega) hg (by omega) (by omega) (by omega) hd6) ?_
 rintro v H7 ⟨t,rfl,hlow,ht,htd⟩
 have hx7:Ext H H7:=Low.toExt hx6 hlow (by omega)
 have hx37:Ext H3 H7:=Low.toExt hx36 hlow (by omega)
 have g1x:=g1h
 have g1:=hx37.get g1h
 have hl7:=hx37.1
 clear g0h g1h g0 k2 k3 gw gw5 gx hd1
 cases t with
 | false=>
  (try simp only[aA])
  refine iB (fun h=>?_) (fun h=>?_)
  case refine_2=>cases h
  clear h
  have hl8:=Heap.get_lt g1
  (try simp only[aA])
  repeat' ((first|refine br ?_|refine bq rfl ?_);(try simp only[aA]))
  refine kY ?_
  exact⟨hx7.set (by omega),fun h=>absurd hin h,fun _ h=>absurd hlong h,fun _ _ _ _=>rfl,fun _ _ _ h=>absurd (ht.2 h) (by simp)⟩
 | true=>
  obtain⟨vv,vs,vl,vp,hd7⟩:=htd rfl
  have hok7:=ht.1 rfl
  have gd:=hd7.box
  have gw:=hd7.word
  have hfl:=fm g r b w (erI e)
  have hfl':(fD g r b w (erI e)).length≤w.length∧w.length≤(fD g r b w (erI e)).length:=by omega
  rw[hfl]at gd
  clear hfl
  generalize fD g r b w (erI e)=W at *
  (try simp only[aA])
  refine iB (fun h=>?_) (fun h=>?_)
  ·cases h
  clear h
  (try simp only[aA])
  repeat' ((first|refine br ?_|refine bq rfl ?_);(try simp only[aA]))
  refine aU (fun i S H'=>Ext H7 H'∧∃vc bc,H7.length≤bc∧Own lo 1 H' vc bc (iU (sel (fun i=>decide (co W i≠co w i)) i))∧∃(z:Nat→Value),S=[z 0,.slice (some ⟨xb,xo,xsp⟩) w.length cw,z 2,z 3,.pointer (some ⟨H.length+1,0,none⟩),z 5,z 6,.pointer (some ⟨H3.length+1+1,0,none⟩),z 8,vc,z 10,z 11,z 12,z 13,z 14,z 15,z 16,z 17,z 18,z 19,z 20,z 21,z 22,z 23,z 24,z 25,z 26,.int .i64 (w.length:Nat),.int .i64 (i:Nat),z 29,z 30,z 31]) w.length ?_ ?_ ?_ ?_
  ·exact⟨Ext.refl _,_,H7.length,Nat.le_refl _,Own.nil (by omega),aL rfl⟩
  ·rintro i S H' hi ⟨hx,vc,bc,hbc,hown,z,rfl⟩
   exact⟨_,fi,by simp⟩
  ·rintro i S H8 hi ⟨hx8,vc,bc,hbc,hown,z,rfl⟩
   obtain⟨yb,yo,ysp,yc,ys,ee,gy,hat,hyl⟩:=cK (hw0.mono (hx7.trans hx8)) (by omega)
   cases ee
   have hati:=hat i hi
   have gd:=(hx8).get gd;have gw:=(hx8).get gw;have g1:=(hx8).get g1
   have hs2:=bK (fun i=>decide (co W i≠co w i)) i
   have hs4:(sel (fun i=>decide (co W i≠co w i)) i).length≤i:=fS _ i
   have hl8:=hx8.1
   have hcW:W.getD i 0=co W i:=rfl
   clear hat
   (try simp only[aA])
   repeat' ((first|refine br ?_|refine bq rfl ?_);(try simp only[aA]))
   by_cases hz:co W i=co w i
   ·rw[if_neg (by simp[hz]),List.append_nil]at hs2
    rw[hs2]
    clear hs2
    have hzv:(co W i).val=(co w i).val:=by rw[hz]
    clear hz
    refine iB (fun h=>?_) (fun h=>?_)
    ·simp at h
    clear h hzv hati
    (try simp only[aA])
    repeat' ((first|refine br ?_|refine bq rfl ?_);(try simp only[aA]))
    exact⟨hx8,vc,bc,hbc,hown,aL (by first|rfl|(simp only[Int.natCast_add,Int.natCast_one];rfl)|simp only[Int.natCast_add,Int.natCast_one])⟩
   ·rw[if_pos (by simp[hz])]at hs2
    have hsl:iU (sel (fun i=>decide (co W i≠co w i)) (i+1))=iU (sel (fun i=>decide (co W i≠co w i)) i)++[.int .i64 (i:Nat)]:=by rw[hs2];simp[iU]
    clear hs2
    have hzv:(co W i).val≠(co w i).val:=fun h=>hz (El.ext h)
    clear hz
    refine iB (fun h=>?_) (fun h=>?_)
    case refine_2=>simp at h;omega
    clear h hzv hati
    (try simp only[aA])
    repeat' ((first|refine br ?_|refine bq rfl ?_);(try simp only[aA]))
    refine eX ?_
    refine dR (c:=[.int .i64 (i:Nat)]) (hown.mono (Ext.app _ _)) (by simp;omega) (by omega) (by omega) (by rw[j0];omega) aN (by simp) rfl rfl ?_
    rintro v' H9 hown9 hk9 hl9
    have hE:=Ext.app H8 [some [Value.int .i64 (i:Nat)]]
    simp only[List.length_append,List.length_cons,List.length_nil]at hown9
    (try simp only[aA])
    repeat' ((first|refine br ?_|refine bq rfl ?_);(try simp only[aA]))
    refine⟨hk9.ext (hx8.trans hE) (by omega),v',H8.length+(0+1),by omega,?_,aL (by first|rfl|(simp only[Int.natCast_add,Int.natCast_one];rfl)|simp only[Int.natCast_add,Int.natCast_one])⟩
    rw[hsl];exact hown9
  ·rintro S H8 ⟨hx8,vc,bc,hbc,hown,z,rfl⟩
   have gd:=(hx8).get gd;have gw:=(hx8).get gw;have g1:=(hx8).get g1
   have hl8:=Heap.get_lt g1
   have hsl:=Sl.ofOwn (enc:=qQ) hown
   have hnw:=NewV.own hown hbc
   have hl7':=hx37.1
   have hl7:=Heap.get_lt (hx37.get g1x)
   have hl3x:=Heap.get_lt g1x
   obtain⟨ac,nc,rfl⟩:=hsl.len
   (try simp only[aA])
   repeat' ((first|refine br ?_|refine bq rfl ?_);(try simp only[aA]))
   refine kY ?_
   refine⟨(hx7.trans hx8).set (by omega),fun h=>absurd hin h,fun _ h=>absurd hlong h,fun _ _ _ h=>absurd hok7 h,fun _ _ _ _=>⟨_,_,rfl,?_,?_,NewV.mk (by omega),NewV.mono hnw (by omega)⟩⟩
   ·exact aY (by rw[aM (by omega)];exact gw) (by omega)
   ·exact dY hsl hnw (dF (Ext.refl _) _ _) hl7
end
end Go.Proofs.YtmnlgdpdgjbfgaaGreat
