/- Lemmas. -/
import Derived.Test.YtmnlgdpdgjbfgaaGreatE10
import Derived.Test.YtmnlgdpdgjbfgaaGreatE13
set_option linter.unusedVariables false
set_option linter.unusedSimpArgs false
set_option linter.unusedSectionVars false
namespace Go.Proofs.YtmnlgdpdgjbfgaaGreat
open Go.Abs Go.RS
set_option maxRecDepth 20000
set_option linter.defProp false in
def mU:=And.intro @Int.cast_ofNat_Int (And.intro @fv.eq_1 (And.intro @fvf.eq_1 (And.intro @arC.eq_1 (And.intro @iL (And.intro @bM (And.intro @eI (And.intro @fJ (And.intro @ite_self.{1} (And.intro @iI (And.intro @iE @iA))))))))))
theorem gJ{P:Prop}(h:P:=by simp(disch:=first|omega|(simp only[aK];omega))only[evB,mU,Nat.reduceAdd,Nat.reduceBEq, *];rfl):P:=h
theorem dI{cp:FuncId→Option CF}{lo:Nat}{l:List (Nat×E)}{chk:List E}{Q:aS}{S:List Value}{H:Heap}{vs:List (Nat×Value)}{S':List Value}(k:Q .normal S' H)(h:evSets S H l=some vs:=by exact gJ)(hc:evChk S H chk=true:=by simp(disch:=first|omega|(simp only[aK];omega))only[evB,mU,Nat.reduceAdd,Nat.reduceBEq, *])(hS:setAll S vs=S':=by exact gJ):wpS cp lo (.sets l chk) Q S H:=cL h hc hS k
theorem iy{cp:FuncId→Option CF}{lo:Nat}{l:List (Nat×E)}{chk:List E}{Q:aS}{S:List Value}{H:Heap}{vs:List (Nat×Value)}{dst:Option Nat}{o:HOp}{a:E}{xs:List Value}(k:wpH cp lo o xs H fun v H'=>Q .normal (setD (setAll S vs) dst v) H')(h:evSets S H l=some vs:=by exact gJ)(hc:evChk S H chk=true:=by simp(disch:=first|omega|(simp only[aK];omega))only[evB,mU,Nat.reduceAdd,Nat.reduceBEq, *])(ha:ev S H a=some xs:=by exact gJ):wpS cp lo (.hv l chk [] dst o a) Q S H:=eC h hc ha k
theorem dH{cp:FuncId→Option CF}{lo:Nat}{l:List (Nat×E)}{chk:List E}{Q:aS}{S:List Value}{H:Heap}{vs:List (Nat×Value)}{dst:Option Nat}{o:HOp}{a:E}{xs:List Value}{S':List Value}{H':Heap}{v:Value}(hcall:o.isCall=false)(k:Q .normal S' H')(h:evSets S H l=some vs:=by exact gJ)(hc:evChk S H chk=true:=by simp(disch:=first|omega|(simp only[aK];omega))only[evB,mU,Nat.reduceAdd,Nat.reduceBEq, *])(ha:ev S H a=some xs:=by exact gJ)(ho:bG lo o xs H=some (v,H'):=by exact gJ)(hS:setD (setAll S vs) dst v=S':=by exact gJ):wpS cp lo (.hv l chk [] dst o a) Q S H:=eG hcall h hc ha ho hS k
theorem kO{cp:FuncId→Option CF}{lo:Nat}{c:E}{a b:Stm}{Q:aS}{S:List Value}{H:Heap}{t:Bool}(k1:t=true→wpS cp lo a Q S H)(k2:t=false→wpS cp lo b Q S H)(h:ev1 S H c=some (.bool t):=by exact gJ):wpS cp lo (.cond c a b) Q S H:=cJ h k1 k2
theorem lU{cf:CF}{R:Value→Heap→Prop}{S:List Value}{H:Heap}{vs:List Value}(k:R (aJ vs) H)(h:evList S H cf.res=some vs:=by exact gJ):aG cf R .ret S H:=bT h k
theorem nq{lo:Nat}{H:Heap}{ch sz po:Int}{v:Value}{l:List Int}(hl:SlI H v l)(hll:l.length≤9223372036854775807):Ev cp lo 151 [fv ch sz po,v] H (fun v H'=>Ext H H'∧v=.bool (inF sz l)):=by
 have hl0:=hl
 obtain⟨ad,c,rfl⟩:=hl.len
 unfold fv
 refine Od ?_;unfold EN vA;simp only[kB,aA]
 repeat' ((first|refine dI ?_|refine dH rfl ?_);(try simp only[aA]))
 generalize hG:H++_=G at *
 have g0:G.get H.length=some [.int .i64 ch,.int .i64 sz,.int .i64 po]:=by rw[←hG];exact aN
 have hxG:Ext H G:=by rw[←hG];exact Ext.app _ _
 clear hG
 refine aU (fun i S H'=>G=H'∧inF sz (l.take i)=true∧∃(z:Nat→Value),S=[z 0,z 1,.pointer (some ⟨H.length,0,none⟩),.bool false,z 4,.slice ad l.length c,.int .i64 (l.length:Nat),.int .i64 (i:Nat)]) l.length ?_ ?_ ?_ ?_
 ·exact⟨rfl,rfl,aL rfl⟩
 ·rintro i S H' hi ⟨rfl,-,z,rfl⟩
  exact⟨_,gJ,by simp⟩
 ·rintro i S H' hi ⟨rfl,hin,z,rfl⟩
  obtain⟨b,o,sp,cap,xs,e,gx,hat,hxl⟩:=hl0.els 0 (by omega)
  cases e
  have gx:=hxG.get gx
  have hati:=hat i hi
  have hs:=eZ (p:=fun x=>!(decide (x<0) || decide (sz≤x))) hi
  clear hat
  (try simp only[aA])
  repeat' ((first|refine dI ?_|refine dH rfl ?_);(try simp only[aA]))
  refine kO (fun h=>?_) (fun h=>?_)
  ·have hno:inF sz l=false:=by
    rw[Bool.eq_false_iff]
    intro hin2
    have:=gQ.1 hin2 (l.getD i 0) (by rw[List.getD_eq_getElem?_getD,List.getElem?_eq_getElem hi];exact List.getElem_mem hi)
    simp at h;simp at this;omega
   clear h hs
   (try simp only[aA])
   repeat' ((first|refine dI ?_|refine dH rfl ?_);(try simp only[aA]))
   refine lU ?_
   exact⟨hxG,by rw[hno];rfl⟩
  ·have hin2:inF sz (l.take (i+1))=true:=by
    unfold inF at hin ⊢
    rw[hs,hin,h];rfl
   clear h hs
   (try simp only[aA])
   repeat' ((first|refine dI ?_|refine dH rfl ?_);(try simp only[aA]))
   exact⟨by trivial,hin2,aL (by first|rfl|(simp only[Int.natCast_add,Int.natCast_one];rfl)|simp only[Int.natCast_add,Int.natCast_one])⟩
 ·rintro S H' ⟨rfl,hin,z,rfl⟩
  rw[List.take_of_length_le (Nat.le_refl _)]at hin
  (try simp only[aA])
  repeat' ((first|refine dI ?_|refine dH rfl ?_);(try simp only[aA]))
  refine lU ?_
  exact⟨hxG,by rw[hin];rfl⟩
theorem Af{lo:Nat}{H:Heap}{ch sz po:Int}{v:Value}{l:List Int}(hl:SlI H v l)(hll:l.length≤9223372036854775807):Ev cp lo 102 [fv ch sz po,v] H (fun v H'=>Ext H H'∧v=.bool (inF sz l)):=by
 have hl0:=hl
 obtain⟨ad,c,rfl⟩:=hl.len
 unfold fv
 refine NX ?_;unfold Fb xV;simp only[kB,aA]
 repeat' ((first|refine dI ?_|refine dH rfl ?_);(try simp only[aA]))
 generalize hG:H++_=G at *
 have g0:G.get H.length=some [.int .i64 ch,.int .i64 sz,.int .i64 po]:=by rw[←hG];exact aN
 have hxG:Ext H G:=by rw[←hG];exact Ext.app _ _
 clear hG
 refine aU (fun i S H'=>G=H'∧inF sz (l.take i)=true∧∃(z:Nat→Value),S=[z 0,z 1,.pointer (some ⟨H.length,0,none⟩),.bool false,z 4,.slice ad l.length c,.int .i64 (l.length:Nat),.int .i64 (i:Nat)]) l.length ?_ ?_ ?_ ?_
 ·exact⟨rfl,rfl,aL rfl⟩
 ·rintro i S H' hi ⟨rfl,-,z,rfl⟩
  exact⟨_,gJ,by simp⟩
 ·rintro i S H' hi ⟨rfl,hin,z,rfl⟩
  obtain⟨b,o,sp,cap,xs,e,gx,hat,hxl⟩:=hl0.els 0 (by omega)
  cases e
  have gx:=hxG.get gx
  have hati:=hat i hi
  have hs:=eZ (p:=fun x=>!(decide (x<0) || decide (sz≤x))) hi
  clear hat
  (try simp only[aA])
  repeat' ((first|refine dI ?_|refine dH rfl ?_);(try simp only[aA]))
  refine kO (fun h=>?_) (fun h=>?_)
  ·have hno:inF sz l=false:=by
    rw[Bool.eq_false_iff]
    intro hin2
    have:=gQ.1 hin2 (l.getD i 0) (by rw[List.getD_eq_getElem?_getD,List.getElem?_eq_getElem hi];exact List.getElem_mem hi)
    simp at h;simp at this;omega
   clear h hs
   (try simp only[aA])
   repeat' ((first|refine dI ?_|refine dH rfl ?_);(try simp only[aA]))
   refine lU ?_
   exact⟨hxG,by rw[hno];rfl⟩
  ·have hin2:inF sz (l.take (i+1))=true:=by
    unfold inF at hin ⊢
    rw[hs,hin,h];rfl
   clear h hs
   (try simp only[aA])
   repeat' ((first|refine dI ?_|refine dH rfl ?_);(try simp only[aA]))
   exact⟨by trivial,hin2,aL (by first|rfl|(simp only[Int.natCast_add,Int.natCast_one];rfl)|simp only[Int.natCast_add,Int.natCast_one])⟩
 ·rintro S H' ⟨rfl,hin,z,rfl⟩
  rw[List.take_of_length_le (Nat.le_refl _)]at hin
  (try simp only[aA])
  repeat' ((first|refine dI ?_|refine dH rfl ?_);(try simp only[aA]))
  refine lU ?_
  exact⟨hxG,by rw[hin];rfl⟩
section
variable {f:FD}[OkC f]
def gT(l:List (El f)):List Int:=l.map fun x=>(x.val:Int)
theorem lN{H:Heap}{v:Value}{l:List (El f)}(h:SlE H v l):SlI H v (gT l):=by
 rcases h with ⟨rfl,rfl⟩|⟨b,o,sp,cap,xs,h1,h2,h3,h4,h5⟩
 ·exact .inl ⟨rfl,rfl⟩
 ·refine .inr ⟨b,o,sp,cap,xs,by rw[h1];simp[gT],h2,?_,by simpa[gT]using h4,by simpa[gT]using h5⟩
  simp only[gT,List.length_map,List.map_map]
  exact h3
theorem gq(l:List (El f)):inF (f.q:Int) (gT l)=true:=by
 rw[gQ]
 intro x hx
 obtain⟨y,_,rfl⟩:=List.mem_map.1 hx
 have:=y.lt
 omega
theorem fO(l:List (El f)):(gT l).length=l.length:=by simp[gT]
set_option maxHeartbeats 1000000 in
theorem Hb{lo:Nat}{H:Heap}{be bl:Nat}{g:El f}{vp:Value}{p:List (El f)}(hlo:lo≤H.length)(hg:Gn (OkC.ok (f:=f)) g)(ha:ArH H g be bl)(hp:SlE H vp p)(hpl:p.length≤100000000)(r:El f) :
  Ev cp lo 152 [arV f be bl,vp,.int .i64 (r.val:Nat),.int .i64 0] H (fun v H'=>Ext H H'∧∃b,H.length≤b∧v=.slice (some ⟨b,0,none⟩) (p.length+1) (p.length+1)∧H'.get b=some (elL (tab (p.length+1) (cv (co p) (mon r))))):=by
 have hp0:=hp
 obtain⟨ap,cp',rfl⟩:=hp.len
 have hz0:((0:El f).val:Int)=0:=rfl
 have hcast:((p.length:Int)+1)=((p.length+1:Nat):Int):=by omega
 unfold arV
 refine Pe ?_;unfold Ea wK;simp only[kB,aA]
 repeat' ((first|refine dI ?_|refine dH rfl ?_);(try simp only[aA]))
 generalize hG:H++_=G at *
 have g0:G.get H.length=some (arC f be bl):=by rw[←hG];exact aN
 have g1:G.get (H.length+1)=some (elL (tab (p.length+1) (fun _=>(0:El f)))):=by
  rw[←hG,az,←dK]
  show some _=some _
  congr 1
  simp[elL,bA,lY,List.replicate_succ,jZ]
 have hxG:Ext H G:=by rw[←hG];exact Ext.app _ _
 clear hG hcast
 refine aU (fun i S H'=>Ext H H'∧H'.get H.length=some (arC f be bl)∧H'.get (H.length+1)=some (elL (tab (p.length+1) (fun k=>if k<i then cv (co p) (mon r) k else if k=i∧0<i then co p (i-1) else 0)))∧∃(z:Nat→Value),S=[z 0,z 1,.int .i64 (r.val:Nat),z 3,.pointer (some ⟨H.length,0,none⟩),.slice none 0 0,.slice (some ⟨H.length+1,0,none⟩) (p.length+1) (p.length+1),z 7,z 8,z 9,.slice ap p.length cp',.int .i64 (p.length:Nat),.int .i64 (i:Nat),z 13,z 14,z 15,z 16,z 17,z 18]) p.length ?_ ?_ ?_ ?_
 ·refine⟨hxG,g0,?_,aL rfl⟩
  rw[g1]
  refine congrArg (fun t=>some (elL t)) ?_
  refine aP fun k _=>?_
  rw[if_neg (by omega),if_neg (by omega)]
 ·rintro i S H' hi ⟨hx,f0,f1,z,rfl⟩
  exact⟨_,gJ,by simp⟩
 ·clear g0 g1 hxG
  rintro i S H1 hi ⟨hx1,f0,f1,z,rfl⟩
  obtain⟨b,o,sp,cap,xs,e,gx,hat,hxl⟩:=cK hp0 (by omega)
  cases e
  have gx:=hx1.get gx
  have hati:=hat i hi
  have hget:(tab (p.length+1) (fun k=>if k<i then cv (co p) (mon r) k else if k=i∧0<i then co p (i-1) else 0)).getD i 0-co p i*r=cv (co p) (mon r) i:=by
   rw[de (by omega),if_neg (by omega)]
   cases i with
   | zero=>rw[if_neg (by omega),wA];exact(show(0-(co p 0*r))=(-(co p 0*r)) from aj [(co p 0*r)] (.add .zero (.neg (.v 0))) (.neg (.v 0)) rfl)
   | succ i=>rw[if_pos ⟨rfl,by omega⟩,yd];rfl
  have hset:((tab (p.length+1) (fun k=>if k<i then cv (co p) (mon r) k else if k=i∧0<i then co p (i-1) else 0)).set i (cv (co p) (mon r) i)).set (i+1) (co p i)=tab (p.length+1) (fun k=>if k<i+1 then cv (co p) (mon r) k else if k=i+1∧0<i+1 then co p (i+1-1) else 0):=by
   rw[eQ,eQ]
   refine aP fun k hk=>?_
   by_cases e:k=i+1
   ·rw[if_pos e,if_neg (by omega),if_pos ⟨e,by omega⟩,Nat.add_sub_cancel]
   ·rw[if_neg e]
    by_cases e2:k=i
    ·rw[if_pos e2,if_pos (by omega),e2]
    ·rw[if_neg e2]
     by_cases h2:k<i
     ·rw[if_pos h2,if_pos (by omega)]
     ·rw[if_neg h2,if_neg (by omega),if_neg (by omega),if_neg (by omega)]
  have hlen2:(tab (p.length+1) (fun k=>if k<i then cv (co p) (mon r) k else if k=i∧0<i then co p (i-1) else 0)).length≤p.length+1∧p.length+1≤(tab (p.length+1) (fun k=>if k<i then cv (co p) (mon r) k else if k=i∧0<i then co p (i-1) else 0)).length:=by rw[aE];omega
  generalize tab (p.length+1) (fun k=>if k<i then cv (co p) (mon r) k else if k=i∧0<i then co p (i-1) else 0)=T at *
  have hi1:((i:Int)+1)=((i+1:Nat):Int):=by omega
  have hl1:=Heap.get_lt f1
  clear hat
  (try simp only[aA])
  repeat' ((first|refine dI ?_|refine dH rfl ?_);(try simp only[aA]))
  refine iy ?_
  refine aQ (RX hg (ha.mono hx1) (co p i) r) ?_
  rintro v H2 ⟨hx2,rfl⟩
  have f0:=(hx2).get f0;have f1:=(hx2).get f1
  have hx2:=hx1.trans hx2
  (try simp only[aA])
  refine iy ?_
  refine aC (PO (T.getD i 0) (co p i*r)) ?_
  rintro v H3 ⟨hx3,rfl⟩
  rw[hget]
  have f0:=(hx3).get f0;have f1:=(hx3).get f1
  have hx3:=hx2.trans hx3
  have hl3:=Heap.get_lt f1
  clear hget
  (try simp only[aA])
  repeat' ((first|refine dI ?_|refine dH rfl ?_);(try simp only[aA]))
  refine⟨(hx3.set (by omega)).set (by omega),by simp(disch:=first|omega|(simp only[aK];omega))only[evB,mU,Nat.reduceAdd,Nat.reduceBEq, *],?_,aL (by first|rfl|(simp only[Int.natCast_add,Int.natCast_one];rfl)|simp only[Int.natCast_add,Int.natCast_one])⟩
  rw[aI (by simp;omega)]
 ·rintro S H1 ⟨hx1,f0,f1,z,rfl⟩
  (try simp only[aA])
  repeat' ((first|refine dI ?_|refine dH rfl ?_);(try simp only[aA]))
  refine lU ?_
  refine⟨hx1,H.length+1,by omega,rfl,?_⟩
  rw[f1]
  refine congrArg (fun t=>some (elL t)) ?_
  refine aP fun k hk=>?_
  by_cases h1:k<p.length
  ·rw[if_pos h1]
  ·have hk2:k=p.length:=by omega
   rw[if_neg h1]
   subst hk2
   cases hpl':p.length with
   | zero=>
    rw[if_neg (by omega),wA,eT (by omega),zero_mul,neg_zero]
   | succ n=>
    rw[if_pos ⟨rfl,by omega⟩,yd,eT (l:=p) (i:=n+1) (by omega),zero_mul]
    show co p n=co p n-0
    exact(show(co p n)=((co p n)-0) from aj [(co p n)] (.v 0) (.add (.v 0) (.neg .zero)) rfl)
end
section
variable {f:FD}[OkC f]
theorem HG{lo:Nat}{H:Heap}:Ev cp lo 105 [fvf f,.slice none 0 0] H (fun v H'=>Ext H H'∧v=.bool true):=by
 unfold fvf fv
 refine Jc ?_;unfold zu rZ;simp only[kB,aA]
 repeat' ((first|refine dI ?_|refine dH rfl ?_);(try simp only[aA]))
 refine iy ?_
 refine aC (valid (ch:=FD.ch f) (sz:=f.q) (po:=f.poly) (gW (OkC.ok (f:=f)))) ?_
 rintro v H1 ⟨hx1,b,rfl,hb⟩
 have hbt:b=true:=hb.2 (jH (OkC.ok (f:=f)))
 subst hbt
 have hx1:=hx1.of_app
 (try simp only[aA])
 refine kO (fun h=>?_) (fun h=>?_)
 ·cases h
 clear h
 (try simp only[aA])
 repeat' ((first|refine dI ?_|refine dH rfl ?_);(try simp only[aA]))
 refine aU (fun i S H'=>H1=H'∧∃(z:Nat→Value),S=[z 0,z 1,z 2,.bool false,z 4,z 5,z 6,.slice none 0 0,.int .i64 0,.int .i64 0,z 10,z 11]) 0 ?_ ?_ ?_ ?_
 ·exact⟨rfl,aL rfl⟩
 ·rintro i S H' hi ⟨rfl,z,rfl⟩
  exact⟨_,gJ,by simp⟩
 ·rintro i S H' hi _
  omega
 ·rintro S H' ⟨rfl,z,rfl⟩
  (try simp only[aA])
  repeat' ((first|refine dI ?_|refine dH rfl ?_);(try simp only[aA]))
  refine lU ?_
  exact⟨hx1,rfl⟩
structure PolyOK (l:List (El f)):Prop where
 len:l.length≤4097
 last:l.length=0∨co l (l.length-1)≠0
set_option maxHeartbeats 1000000 in
theorem JI{lo:Nat}{H:Heap}{vp vq:Value}{p q:List (El f)}{bb:Nat}(hp:SlE H vp p)(hq:SlE H vq q)(hpo:PolyOK p)(hqo:PolyOK q)(hb:H.get bb=some [vp,vq]):Ev cp lo 105 [fvf f,.slice (some ⟨bb,0,none⟩) 2 2] H (fun v H'=>Ext H H'∧v=.bool true):=by
 unfold fvf fv
 refine Jc ?_;unfold zu rZ;simp only[kB,aA]
 repeat' ((first|refine dI ?_|refine dH rfl ?_);(try simp only[aA]))
 refine iy ?_
 refine aC (valid (ch:=FD.ch f) (sz:=f.q) (po:=f.poly) (gW (OkC.ok (f:=f)))) ?_
 rintro v H1 ⟨hx1,b,rfl,hbv⟩
 have hbt:b=true:=hbv.2 (jH (OkC.ok (f:=f)))
 subst hbt
 have g0:H1.get H.length=some _:=hx1.get (gJ)
 have hx1:=hx1.of_app
 have hb:=hx1.get hb
 (try simp only[aA])
 refine kO (fun h=>?_) (fun h=>?_)
 ·cases h
 clear h
 (try simp only[aA])
 repeat' ((first|refine dI ?_|refine dH rfl ?_);(try simp only[aA]))
 refine aU (fun i S H'=>Ext H1 H'∧∃(z:Nat→Value),S=[z 0,z 1,.pointer (some ⟨H.length,0,none⟩),.bool false,z 4,z 5,z 6,.slice (some ⟨bb,0,none⟩) 2 2,.int .i64 2,.int .i64 (i:Nat),z 10,z 11]) 2 ?_ ?_ ?_ ?_
 ·exact⟨Ext.refl _,aL rfl⟩
 ·rintro i S H' hi ⟨hx,z,rfl⟩
  exact⟨_,gJ,by simp;try omega⟩
 ·rintro i S H2 hi ⟨hx2,z,rfl⟩
  have f0:=hx2.get g0
  have fb:=hx2.get hb
  obtain⟨vi,li,hgi,hsl,hok⟩:∃(vi:Value) (li:List (El f)),[vp,vq][i]?=some vi∧SlE H vi li∧PolyOK li:=by
   have:i=0∨i=1:=by omega
   rcases this with rfl|rfl
   ·exact⟨vp,p,rfl,hp,hpo⟩
   ·exact⟨vq,q,rfl,hq,hqo⟩
  have hsl2:=hsl.mono (hx1.trans hx2)
  have hsl3:=hsl2
  obtain⟨ai,ci,rfl⟩:=hsl.len
  have hlen:=hok.len
  generalize hvl:[vp,vq]=VL at *
  have hVl:VL.length≤2∧2≤VL.length:=by rw[←hvl];simp
  clear hvl hp hq
  (try simp only[aA])
  repeat' ((first|refine dI ?_|refine dH rfl ?_);(try simp only[aA]))
  by_cases hz:li.length=0
  ·have hz1:¬ (4097:Int)<li.length:=by omega
   have hz2:¬ (0:Int)<li.length:=by omega
   clear hz
   refine au (t:=true) (gJ) (by simp(disch:=first|omega|(simp only[aK];omega))only[evB,mU,Nat.reduceAdd,Nat.reduceBEq, *]) (by simp(disch:=first|omega|(simp only[aK];omega))only[evB,mU,Nat.reduceAdd,Nat.reduceBEq, *];try rfl) (fun _=>⟨_,gJ,?_⟩) (fun h=>by cases h)
   refine aC (nq (ch:=FD.ch f) (sz:=f.q) (po:=f.poly) (lN hsl3) (by rw[fO];omega)) ?_
   rintro v H3 ⟨hx3,rfl⟩
   rw[gq]
   (try simp only[aA])
   refine kO (fun h=>?_) (fun h=>?_)
   ·cases h
   clear h
   (try simp only[aA])
   repeat' ((first|refine dI ?_|refine dH rfl ?_);(try simp only[aA]))
   exact⟨hx2.trans hx3,aL (by first|rfl|(simp only[Int.natCast_add,Int.natCast_one];rfl)|simp only[Int.natCast_add,Int.natCast_one])⟩
  ·have hlast:=hok.last.resolve_left hz
   obtain⟨b',o,sp,cap,xs,e,gx,hat,hxl⟩:=cK hsl2 (by omega)
   cases e
   have hati:=hat (li.length-1) (by omega)
   have e1:((li.length:Int)-1)=((li.length-1:Nat):Int):=by omega
   have hz1:¬ (4097:Int)<li.length:=by omega
   have hz2:(0:Int)<li.length:=by omega
   have hnz:¬ ((co li (li.length-1)).val:Int)=0:=by have:=eH hlast;omega
   clear hat
   refine au (t:=true) (gJ) (by simp(disch:=first|omega|(simp only[aK];omega))only[evB,mU,Nat.reduceAdd,Nat.reduceBEq, *]) (by simp(disch:=first|omega|(simp only[aK];omega))only[evB,mU,Nat.reduceAdd,Nat.reduceBEq, *];try rfl) (fun _=>⟨_,gJ,?_⟩) (fun h=>by cases h)
   refine aC (nq (ch:=FD.ch f) (sz:=f.q) (po:=f.poly) (lN hsl3) (by rw[fO];omega)) ?_
   rintro v H3 ⟨hx3,rfl⟩
   rw[gq]
   (try simp only[aA])
   refine kO (fun h=>?_) (fun h=>?_)
   ·cases h
   clear h
   (try simp only[aA])
   repeat' ((first|refine dI ?_|refine dH rfl ?_);(try simp only[aA]))
   exact⟨hx2.trans hx3,aL (by first|rfl|(simp only[Int.natCast_add,Int.natCast_one];rfl)|simp only[Int.natCast_add,Int.natCast_one])⟩
 ·rintro S H2 ⟨hx2,z,rfl⟩
  (try simp only[aA])
  repeat' ((first|refine dI ?_|refine dH rfl ?_);(try simp only[aA]))
  refine lU ?_
  exact⟨hx1.trans hx2,rfl⟩
theorem yk{lo:Nat}{H:Heap}{g:El f}{v:Value}{rs:List (El f)}(hlo:lo≤H.length)(hg:Gn (OkC.ok (f:=f)) g)(hr:SlE H v rs)(hrl:rs.length≤4096) :
  Ev cp lo 104 [fvf f,v] H (fun v H'=>Ext H H'∧∃vp,v=.tuple #[vp,.int .i64 0]∧SlE H' vp (oy (co rs) rs.length)):=by
 have hr0:=hr
 obtain⟨ar,cr,rfl⟩:=hr.len
 unfold fvf fv
 refine R6 ?_;unfold EH uY;simp only[kB,aA]
 repeat' ((first|refine dI ?_|refine dH rfl ?_);(try simp only[aA]))
 refine iy ?_
 refine aC (HG (f:=f)) ?_
 rintro v H1 ⟨hx1,rfl⟩
 have g0:H1.get H.length=some _:=hx1.get (gJ)
 have hx1:=hx1.of_app
 have hl1:=hx1.1
 (try simp only[aA])
 refine au (t:=true) (gJ) (by simp(disch:=first|omega|(simp only[aK];omega))only[evB,mU,Nat.reduceAdd,Nat.reduceBEq, *]) (by simp(disch:=first|omega|(simp only[aK];omega))only[evB,mU,Nat.reduceAdd,Nat.reduceBEq, *];try rfl) (fun _=>⟨_,gJ,?_⟩) (fun h=>by cases h)
 refine aC (nq (ch:=FD.ch f) (sz:=f.q) (po:=f.poly) (lN (hr0.mono hx1)) (by rw[fO];omega)) ?_
 rintro v H2 ⟨hx2,rfl⟩
 rw[gq]
 have g0:=hx2.get g0
 have hx2:=hx1.trans hx2
 have hl2:=Heap.get_lt g0
 (try simp only[aA])
 refine kO (fun h=>?_) (fun h=>?_)
 ·cases h
 clear h
 (try simp only[aA])
 refine kO (fun h=>?_) (fun h=>?_)
 ·simp at h;omega
 clear h
 (try simp only[aA])
 refine iy ?_
 refine aC (sP (f:=f) (by omega) hg) ?_
 rintro v H3 ⟨hx3,be,bl,hbe,hbl,rfl,harith⟩
 have hx3:=hx2.trans hx3
 have hl3:=hx3.1
 unfold arV
 (try simp only[aA])
 repeat' ((first|refine dI ?_|refine dH rfl ?_);(try simp only[aA]))
 generalize hG:H3++_=G at *
 have g1:G.get H3.length=some (arC f be bl):=by rw[←hG];exact aN
 have g2:G.get (H3.length+1)=some (elL (oy (co rs) 0)):=by rw[←hG,az];rfl
 have hxG:Ext H3 G:=by rw[←hG];exact Ext.app _ _
 have harith:=harith.mono hxG
 clear hG
 have hxG:=hx3.trans hxG
 generalize H3.length=p3 at *
 refine aU (fun i S H'=>Ext G H'∧∃bb,H'.get bb=some (elL (oy (co rs) i))∧∃(z:Nat→Value),S=[z 0,z 1,.pointer (some ⟨H.length,0,none⟩),.slice none 0 0,.int .i64 0,.pointer (some ⟨p3,0,none⟩),.slice (some ⟨bb,0,none⟩) (i+1) (i+1),z 7,z 8,z 9,z 10,z 11,z 12,.slice ar rs.length cr,.int .i64 (rs.length:Nat),.int .i64 (i:Nat),z 16]) rs.length ?_ ?_ ?_ ?_
 ·exact⟨Ext.refl _,p3+1,g2,aL rfl⟩
 ·rintro i S H' hi ⟨hx,bb,fb,z,rfl⟩
  exact⟨_,gJ,by simp⟩
 ·clear g2
  rintro i S H4 hi ⟨hx4,bb,fb,z,rfl⟩
  have hl4:=(hxG.trans hx4).1
  obtain⟨b',o,sp,cap,xs,e,gx,hat,hxl⟩:=cK hr0 (by omega)
  cases e
  have gx:=(hxG.trans hx4).get gx
  have f1:=hx4.get g1
  have hati:=hat i hi
  have hgl:=pt (co rs) i
  have hs1:=aY (sp:=none) fb hgl
  clear hat
  (try simp only[aA])
  repeat' ((first|refine dI ?_|refine dH rfl ?_);(try simp only[aA]))
  refine iy ?_
  refine aC (Hb (by omega) hg (harith.mono hx4) hs1 (by rw[hgl];omega) (co rs i)) ?_
  rintro v H5 ⟨hx5,b5,hb5,rfl,f5⟩
  rw[hgl]at f5 ⊢
  have hgen:tab (i+1+1) (cv (co (oy (co rs) i)) (mon (co rs i)))=oy (co rs) (i+1):=by rw[uQ];rfl
  rw[hgen]at f5
  have hx5:=hx4.trans hx5
  clear hgl
  (try simp only[aA])
  repeat' ((first|refine dI ?_|refine dH rfl ?_);(try simp only[aA]))
  exact⟨hx5,b5,f5,aL (by first|rfl|(simp only[Int.natCast_add,Int.natCast_one];rfl)|simp only[Int.natCast_add,Int.natCast_one])⟩
 ·rintro S H4 ⟨hx4,bb,fb,z,rfl⟩
  (try simp only[aA])
  repeat' ((first|refine dI ?_|refine dH rfl ?_);(try simp only[aA]))
  refine lU ?_
  refine⟨hxG.trans hx4,_,rfl,?_⟩
  exact aY (sp:=none) fb (pt _ _)
end
section
variable {f:FD}[OkC f]
theorem BP{lo:Nat}{H:Heap}{z:List Value}{b o c:Nat}{sp:Option Nat}{xs:List Value}{R:Value→Heap→Prop}(hb:H.get b=some xs)(ho:o≤xs.length)(k:R (.slice none 0 0) H):wpH cp lo (.app 1 z) [.slice none 0 0,.slice (some ⟨b,o,sp⟩) 0 c] H R:=by
 simp only[wpH,bG,hsem,Heap.cells,hb,Nat.zero_mul,Nat.add_zero,ho,if_true,Option.bind_some,List.take_zero,oneCells,List.all_nil,ah,Nat.le_refl]
 exact k
theorem qO{lo:Nat}{H:Heap}{z:List Value}{c:Nat}{R:Value→Heap→Prop}(k:R (.slice none 0 0) H):wpH cp lo (.app 1 z) [.slice none 0 0,.slice none 0 c] H R:=by
 simp only[wpH,bG,hsem,if_true,ah,Nat.add_zero,Nat.le_refl]
 exact k
theorem k5{lo:Nat}{H:Heap}{z:List Value}{b o c n:Nat}{sp:Option Nat}{xs:List Value}{l:List (El f)}{R:Value→Heap→Prop}(hlo:lo≤H.length)(hb:H.get b=some xs)(ho:o+n≤xs.length)(hx:(xs.drop o).take n=elL l)(hn:n≤4000000000)
  (k:∀v' H',Own lo 1 H' v' H.length (elL l)→Ext H H'→R v' H'):wpH cp lo (.app 1 z) [.slice none 0 0,.slice (some ⟨b,o,sp⟩) n c] H R:=by
 have hll:l.length=n:=by
  have:=congrArg List.length hx
  rw[bM,List.length_take,List.length_drop]at this
  omega
 by_cases h0:n=0
 ·subst h0
  have:l=[]:=List.length_eq_zero_iff.1 hll
  subst this
  exact BP hb (by omega) (k _ _ (Own.nil hlo) (Ext.refl _))
 ·refine dR (b:=H.length) (cells:=[]) (c:=elL l) (Own.nil hlo) hlo (by omega) (by omega) (by simp;omega) hb (by omega) (by rw[Nat.mul_one];exact hx) (pI l) ?_
  intro v' H' h1 h2 h3
  exact k v' H' (by simpa using h1) ⟨by omega,fun i hi=>h2.eq i hi (by omega)⟩
theorem wx{xs:List Value}{o n:Nat}{p:List (El f)}(h:(xs.drop o).take p.length=p.map lY)(hn:n≤p.length):(xs.drop o).take n=elL (p.take n):=by
 have:((xs.drop o).take p.length).take n=(p.map lY).take n:=by rw[h]
 rw[List.take_take,Nat.min_eq_left hn,←List.map_take]at this
 exact this
theorem E1{lo:Nat}{H:Heap}{v:Value}{p:List (El f)}(hlo:lo≤H.length)(hp:SlE H v p)(hpl:p.length≤100000000):Ev cp lo 62 [v] H (fun v H'=>Ext H H'∧SlE H' v (trim p)):=by
 rcases hp with ⟨rfl,rfl⟩|⟨b,o,sp,cap,xs,rfl,hb,hx,hxl,hsp,hcap⟩
 ·refine PF ?_;unfold IX BH;simp only[kB,aA]
  repeat' ((first|refine dI ?_|refine dH rfl ?_);(try simp only[aA]))
  refine bI (fun m S H'=>H=H'∧S=[.slice none 0 0,.slice none 0 0,.int .i64 0,undef]) 0 ⟨rfl,rfl⟩ ?_
  rintro m S H' ⟨rfl,rfl⟩
  (try simp only[aA])
  refine kO (fun h=>?_) (fun h=>?_)
  ·simp at h
  clear h
  (try simp only[aA])
  refine iy ?_
  refine qO ?_
  (try simp only[aA])
  repeat' ((first|refine dI ?_|refine dH rfl ?_);(try simp only[aA]))
  refine lU ?_
  exact⟨Ext.refl _,.inl ⟨rfl,rfl⟩⟩
 have hat:∀i,i<p.length→xs[o+i]?=some (.int .i64 ((co p i).val:Nat)):=by
  intro i hi
  have e:((xs.drop o).take p.length)[i]?=(p.map lY)[i]?:=by rw[hx]
  rw[List.getElem?_take,if_pos hi,List.getElem?_drop]at e
  rw[e,List.getElem?_map,List.getElem?_eq_getElem hi,oT hi];rfl
 refine PF ?_;unfold IX BH;simp only[kB,aA]
 repeat' ((first|refine dI ?_|refine dH rfl ?_);(try simp only[aA]))
 refine bI (fun m S H'=>H=H'∧m≤p.length∧(∀i,m≤i→co p i=0)∧∃z3,S=[.slice (some ⟨b,o,sp⟩) p.length cap,.slice none 0 0,.int .i64 (m:Nat),z3]) p.length ?_ ?_
 ·exact⟨rfl,Nat.le_refl _,fun i hi=>eT hi,_,rfl⟩
 rintro m S H' ⟨rfl,hm,hz,z3,rfl⟩
 have hfin:(∀v' H',Own lo 1 H' v' H.length (elL (p.take m))→Ext H H'→trim p=p.take m→Ext H H'∧SlE H' v' (trim p)):=by
  intro v' H' h1 h2 h3
  exact⟨h2,by rw[h3];exact Sl.ofOwn h1⟩
 by_cases hm0:m=0
 ·subst hm0
  (try simp only[aA])
  refine kO (fun h=>?_) (fun h=>?_)
  ·simp at h
  clear h
  have ht:trim p=p.take 0:=by rw[←lT (n:=0) (by omega) hz];rfl
  (try simp only[aA])
  rcases hsp with rfl|rfl
  ·refine iy ?_
   refine k5 (l:=p.take 0) hlo hb (by simp;omega) (by simp[elL]) (by simp) ?_
   intro v' H' h1 h2
   (try simp only[aA])
   repeat' ((first|refine dI ?_|refine dH rfl ?_);(try simp only[aA]))
   refine lU ?_
   exact hfin v' H' h1 h2 ht
  ·refine iy ?_
   refine k5 (l:=p.take 0) hlo hb (by simp;omega) (by simp[elL]) (by simp) ?_
   intro v' H' h1 h2
   (try simp only[aA])
   repeat' ((first|refine dI ?_|refine dH rfl ?_);(try simp only[aA]))
   refine lU ?_
   exact hfin v' H' h1 h2 ht
 have hati:=hat (m-1) (by omega)
 have e1:((m:Int)-1)=((m-1:Nat):Int):=by omega
 have hmp:(0:Int)<m:=by omega
 (try simp only[aA])
 refine kO (fun h=>?_) (fun h=>?_)
 ·have hc:co p (m-1)=0:=cm (by simp at h;omega)
  clear h
  clear hat hati
  (try simp only[aA])
  repeat' ((first|refine dI ?_|refine dH rfl ?_);(try simp only[aA]))
  simp only[cE]
  refine⟨m-1,by omega,by trivial,by omega,fun i hi=>?_,_,rfl⟩
  by_cases e:i=m-1
  ·rw[e];exact hc
  ·exact hz i (by omega)
 ·have hc:co p (m-1)≠0:=fun e=>by rw[e,jZ]at h;simp at h;try omega
  clear h
  have ht:trim p=p.take m:=by
   rw[←lT hm hz]
   have:=oG (l:=p) (n:=m-1) (by omega) hc
   rwa [show m-1+1=m by omega]at this
  clear hat hati e1
  (try simp only[aA])
  rcases hsp with rfl|rfl
  ·refine iy ?_
   refine k5 (l:=p.take m) hlo hb (by first|omega|(simp;omega)) (by simpa using wx hx hm) (by first|omega|(simp;omega)) ?_
   intro v' H' h1 h2
   (try simp only[aA])
   repeat' ((first|refine dI ?_|refine dH rfl ?_);(try simp only[aA]))
   refine lU ?_
   exact hfin v' H' h1 h2 ht
  ·refine iy ?_
   refine k5 (l:=p.take m) hlo hb (by first|omega|(simp;omega)) (by simpa using wx hx hm) (by first|omega|(simp;omega)) ?_
   intro v' H' h1 h2
   (try simp only[aA])
   repeat' ((first|refine dI ?_|refine dH rfl ?_);(try simp only[aA]))
   refine lU ?_
   exact hfin v' H' h1 h2 ht
end
section
variable {f:FD}[OkC f]
structure DivR (p q R:List (El f))(Q:Ser (El f))(m:Nat):Prop where
 len:R.length=p.length
 eq:∀k,co p k=cv Q (co q) k+co R k
 top:∀k,m≤k→co R k=0
 qz:∀k,p.length≤k→Q k=0
set_option maxHeartbeats 4000000 in
theorem ID{lo:Nat}{H:Heap}{be bl:Nat}{g:El f}{vp vq:Value}{p q:List (El f)}(hlo:lo≤H.length)(hg:Gn (OkC.ok (f:=f)) g)(ha:ArH H g be bl)(hp:SlE H vp p)(hq:SlE H vq q)(hpl:p.length≤10000000)(hql:q.length≤10000000)(hq0:0<q.length)(hqt:co q (q.length-1)≠0) :
  Ev cp lo 107 [arV f be bl,vp,vq] H (fun v H'=>Ext H H'∧∃vt vr R Q,v=.tuple #[vt,vr]∧SlE H' vr (trim R)∧DivR p q R Q (q.length-1)):=by
 have hp0:=hp
 have hq0':=hq
 obtain⟨b',o',sp',capq,ys,eq',gy,hay,hyl⟩:=cK hq hq0
 cases eq'
 have hby:=Heap.get_lt gy
 have hcopy:∀(G:Heap) (R:Value→Heap→Prop) (z:List Value),Ext H G→(∀v' H',Own lo 1 H' v' G.length (elL p)→Ext G H'→R v' H')→wpH cp lo (.app 1 z) [.slice none 0 0,vp] G R:=by
  intro G R z hG k
  rcases hp with ⟨rfl,rfl⟩|⟨b,o,sp,cap,xs,rfl,hb,hx,hxl,_⟩
  ·exact qO (k _ _ (Own.nil (Nat.le_trans hlo hG.1)) (Ext.refl _))
  ·exact k5 (Nat.le_trans hlo hG.1) (hG.get hb) hxl hx (by omega) k
 obtain⟨ap,capp,rfl⟩:=hp0.len
 have htop:((q.length:Int)-1)=((q.length-1:Nat):Int):=by omega
 unfold arV
 refine Po ?_;unfold CQ vW;simp only[kB,aA]
 repeat' ((first|refine dI ?_|refine dH rfl ?_);(try simp only[aA]))
 generalize hG:H++_=G at *
 have g0:G.get H.length=some (arC f be bl):=by rw[←hG];exact aN
 have hxG:Ext H G:=by rw[←hG];exact Ext.app _ _
 have hGl:G.length=H.length+1:=by rw[←hG];simp
 clear hG
 refine iy ?_
 refine hcopy G _ _ hxG ?_
 intro v5 H1 hown hx1
 clear hcopy
 have g0:=hx1.get g0
 have hx1:=hxG.trans hx1
 have hl1:=hx1.1
 rw[hGl]at hown
 clear hxG hGl
 (try simp only[aA])
 repeat' ((first|refine dI ?_|refine dH rfl ?_);(try simp only[aA]))
 generalize htE:q.length-1=top at *
 by_cases hlen:top<p.length
 rotate_left
 ·
  refine kO (fun h=>?_) (fun h=>?_)
  ·simp at h;omega
  clear h
  (try simp only[aA])
  repeat' ((first|refine dI ?_|refine dH rfl ?_);(try simp only[aA]))
  refine bI (fun m S H'=>H1=H'∧∃z4 z5 z6 z7:Value,m=0∧z4=.slice none 0 0∧v5=z5∧z7=.int .i64 (-1)∧∃z0 z1 z2 z3 z8 z9 z10 z11 z12 z13 z14 z15 z16 z17 z18 z19 z20 z21 z22 z23 z24,S=[z0,z1,z2,z3,z4,z5,z6,z7,z8,z9,z10,z11,z12,z13,z14,z15,z16,z17,z18,z19,z20,z21,z22,z23,z24]) 0 ⟨rfl,_,_,_,_,rfl,rfl,rfl,rfl,_,_,_,_,_,_,_,_,_,_,_,_,_,_,_,_,_,_,_,_,_,rfl⟩ ?_
  rintro m S H' ⟨rfl,z4,z5,z6,z7,rfl,rfl,rfl,rfl,z0,z1,z2,z3,z8,z9,z10,z11,z12,z13,z14,z15,z16,z17,z18,z19,z20,z21,z22,z23,z24,rfl⟩
  (try simp only[aA])
  refine kO (fun h=>?_) (fun h=>?_)
  ·simp at h
  clear h
  have hsl:SlE H1 v5 p:=Sl.ofOwn hown
  (try simp only[aA])
  refine iy ?_
  refine aC (E1 (by omega) hsl (by omega)) ?_
  rintro v H2 ⟨hx2,hs2⟩
  (try simp only[aA])
  repeat' ((first|refine dI ?_|refine dH rfl ?_);(try simp only[aA]))
  refine lU ?_
  refine⟨hx1.trans hx2,_,_,p,fun _=>0,rfl,hs2,rfl,fun k=>?_,fun k hk=>eT (by omega),fun _ _=>rfl⟩
  rw[cX,mg]
  exact(zero_add _).symm
 obtain⟨hb5,⟨_,e⟩|⟨n5,hn5,hn5l,rfl,f5⟩⟩:=hown
 ·exfalso
  have:=congrArg List.length e
  rw[bM,List.length_nil]at this
  omega
 rw[bM,Nat.mul_one]at hn5l
 subst hn5l
 have hsub:((p.length:Int)-(top:Int))=((p.length-top:Nat):Int):=by omega
 refine kO (fun h=>?_) (fun h=>?_)
 rotate_left
 ·exfalso;simp at h;try omega
 clear h
 (try simp only[aA])
 repeat' ((first|refine dI ?_|refine dH rfl ?_);(try simp only[aA]))
 generalize hM:H1.length=M at *
 have hb5M:=Heap.get_lt f5
 rw[hM]at hb5M
 have hm1:(((p.length-top:Nat):Int)-1)=((p.length-top:Nat):Int)-1:=rfl
 clear hsub
 refine bI (fun i S H'=>Ext H H'∧i≤p.length-top∧H'.get H.length=some (arC f be bl)∧∃(R Qv:List (El f)) (Q:Ser (El f)),H'.get (H.length+1)=some (elL R)∧H'.get M=some (elL Qv)∧Qv.length=p.length-top∧DivR p q R Q (i+top)∧∃(z:Nat→Value),S=[z 0,z 1,.slice (some ⟨b',o',sp'⟩) q.length capq,.pointer (some ⟨H.length,0,none⟩),.slice (some ⟨M,0,none⟩) (p.length-top) (p.length-top),.slice (some ⟨H.length+1,0,some 1⟩) p.length p.length,.int .i64 (top:Nat),.int .i64 ((i:Nat)-1),z 8,z 9,z 10,z 11,z 12,z 13,z 14,z 15,z 16,z 17,z 18,z 19,z 20,z 21,z 22,z 23,z 24]) (p.length-top) ?_ ?_
 ·refine⟨hx1.trans (Ext.app _ _),Nat.le_refl _,by simp(disch:=first|omega|(simp only[aK];omega))only[evB,mU,Nat.reduceAdd,Nat.reduceBEq, *],p,List.replicate (p.length-top) 0,fun _=>0,by simp(disch:=first|omega|(simp only[aK];omega))only[evB,mU,Nat.reduceAdd,Nat.reduceBEq, *],by rw[←hM,aN],by simp,⟨rfl,fun k=>?_,fun k hk=>eT (by omega),fun _ _=>rfl⟩,aL rfl⟩
  rw[cX,mg]
  exact(zero_add _).symm
 clear g0 f5 hm1
 rintro m S H2 ⟨hx2,hmle,f0,R,Qv,Q,f5,fM,hQl,hdiv,z,rfl⟩
 by_cases hm0:m=0
 ·subst hm0
  (try simp only[aA])
  refine kO (fun h=>?_) (fun h=>?_)
  ·simp at h
  clear h
  have hRl:=hdiv.len
  have hl2:=hx2.1
  have hsl:SlE H2 (.slice (some ⟨H.length+1,0,some 1⟩) p.length p.length) R:=aY f5 hRl
  (try simp only[aA])
  refine iy ?_
  refine aC (E1 (by omega) hsl (by omega)) ?_
  rintro v H3 ⟨hx3,hs3⟩
  (try simp only[aA])
  repeat' ((first|refine dI ?_|refine dH rfl ?_);(try simp only[aA]))
  refine lU ?_
  rw[Nat.zero_add]at hdiv
  exact⟨hx2.trans hx3,_,_,R,Q,rfl,hs3,hdiv⟩
 obtain⟨i,rfl⟩:∃i,m=i+1:=⟨m-1,by omega⟩
 have e1:(((i+1:Nat):Int)-1)=(i:Int):=by omega
 rw[e1]
 have hRl:=hdiv.len
 have hRl2:R.length≤p.length∧p.length≤R.length:=by omega
 have hQl2:Qv.length≤p.length-top∧p.length-top≤Qv.length:=by omega
 have gy2:=hx2.get gy
 have hat:=hay top (by omega)
 have hit:((i:Int)+(top:Int))=((i+top:Nat):Int):=by omega
 have hcoR:R.getD (i+top) 0=co R (i+top):=rfl
 have hl2:=hx2.1
 clear hm0
 (try simp only[aA])
 refine kO (fun h=>?_) (fun h=>?_)
 rotate_left
 ·exfalso;simp at h;try omega
 clear h
 (try simp only[aA])
 repeat' ((first|refine dI ?_|refine dH rfl ?_);(try simp only[aA]))
 refine iy ?_
 refine aC (TT hg (ha.mono hx2) (co R (i+top)) (co q top) hqt) ?_
 rintro v H3 ⟨hx3,rfl⟩
 have f0:=(hx3).get f0;have f5:=(hx3).get f5;have fM:=(hx3).get fM;have gy2:=(hx3).get gy2
 have hx3:=hx2.trans hx3
 have hMl:=Heap.get_lt fM
 generalize hc:co R (i+top)*inv (co q top)=c at *
 clear hat hit hcoR
 (try simp only[aA])
 repeat' ((first|refine dI ?_|refine dH rfl ?_);(try simp only[aA]))
 generalize hG4:List.set H3 M _=H4 at *
 have f0:Heap.get H4 H.length=some (arC f be bl):=by rw[←hG4,aM (by omega)];exact f0
 have f5:Heap.get H4 (H.length+1)=some (elL R):=by rw[←hG4,aM (by omega)];exact f5
 have fM:Heap.get H4 M=some (elL (Qv.set i c)):=by rw[←hG4,aI (by omega)]
 have hx4:Ext H H4:=by rw[←hG4];exact hx3.set (by omega)
 have hQl3:(Qv.set i c).length=p.length-top:=by rw[List.length_set];exact hQl
 generalize Qv.set i c=Qv' at *
 clear hG4 hx3 hMl hQl hQl2 gy2
 refine aU (fun j S H'=>Ext H H'∧H'.get H.length=some (arC f be bl)∧H'.get (H.length+1)=some (elL (tab p.length (fun k=>if i≤k∧k<i+j then co R k-c*co q (k-i) else co R k)))∧H'.get M=some (elL Qv')∧∃(z:Nat→Value),S=[z 0,z 1,.slice (some ⟨b',o',sp'⟩) q.length capq,.pointer (some ⟨H.length,0,none⟩),.slice (some ⟨M,0,none⟩) (p.length-top) (p.length-top),.slice (some ⟨H.length+1,0,some 1⟩) p.length p.length,.int .i64 (top:Nat),.int .i64 (i:Nat),.int .i64 (c.val:Nat),z 9,z 10,z 11,z 12,z 13,.slice (some ⟨b',o',sp'⟩) q.length capq,.int .i64 (q.length:Nat),.int .i64 (j:Nat),z 17,z 18,z 19,z 20,z 21,z 22,z 23,z 24]) q.length ?_ ?_ ?_ ?_
 ·refine⟨hx4,f0,?_,fM,aL rfl⟩
  rw[f5]
  refine congrArg (fun t=>some (elL t)) ?_
  refine CJ hRl fun k _=>?_
  rw[if_neg (by omega)]
 ·rintro j S H' hj ⟨hx,f0,f5,fM,z,rfl⟩
  exact⟨_,gJ,by simp⟩
 ·clear f0 f5 fM hx4
  rintro j S H4 hj ⟨hx4,f0,f5,fM,z,rfl⟩
  have gy2:=hx4.get gy
  have hayj:=hay j hj
  have hget:(tab p.length (fun k=>if i≤k∧k<i+j then co R k-c*co q (k-i) else co R k)).getD (i+j) 0=co R (i+j):=by rw[de (by omega),if_neg (by omega)]
  have hset:(tab p.length (fun k=>if i≤k∧k<i+j then co R k-c*co q (k-i) else co R k)).set (i+j) (co R (i+j)-c*co q j)=tab p.length (fun k=>if i≤k∧k<i+(j+1) then co R k-c*co q (k-i) else co R k):=by
   rw[eQ]
   refine aP fun k hk=>?_
   by_cases e:k=i+j
   ·rw[if_pos e,if_pos (by omega),e,show i+j-i=j by omega]
   ·rw[if_neg e]
    by_cases h2:i≤k∧k<i+j
    ·rw[if_pos h2,if_pos (by omega)]
    ·rw[if_neg h2,if_neg (by omega)]
  have hlen2:(tab p.length (fun k=>if i≤k∧k<i+j then co R k-c*co q (k-i) else co R k)).length≤p.length∧p.length≤(tab p.length (fun k=>if i≤k∧k<i+j then co R k-c*co q (k-i) else co R k)).length:=by rw[aE];omega
  generalize tab p.length (fun k=>if i≤k∧k<i+j then co R k-c*co q (k-i) else co R k)=T at *
  have hin:((i:Int)+(j:Int))=((i+j:Nat):Int):=by omega
  have hl4:=Heap.get_lt f5
  (try simp only[aA])
  repeat' ((first|refine dI ?_|refine dH rfl ?_);(try simp only[aA]))
  refine iy ?_
  refine aQ (RX hg (ha.mono hx4) c (co q j)) ?_
  rintro v H5 ⟨hx5,rfl⟩
  have f0:=(hx5).get f0;have f5:=(hx5).get f5;have fM:=(hx5).get fM
  have hx5:=hx4.trans hx5
  (try simp only[aA])
  refine iy ?_
  refine aC (PO (co R (i+j)) (c*co q j)) ?_
  rintro v H6 ⟨hx6,rfl⟩
  have f0:=(hx6).get f0;have f5:=(hx6).get f5;have fM:=(hx6).get fM
  have hx6:=hx5.trans hx6
  have hl6:=Heap.get_lt f5
  clear hget
  (try simp only[aA])
  repeat' ((first|refine dI ?_|refine dH rfl ?_);(try simp only[aA]))
  exact⟨hx6.set (by omega),by simp(disch:=first|omega|(simp only[aK];omega))only[evB,mU,Nat.reduceAdd,Nat.reduceBEq, *],by rw[aI (by omega)],by simp(disch:=first|omega|(simp only[aK];omega))only[evB,mU,Nat.reduceAdd,Nat.reduceBEq, *],aL (by first|rfl|(simp only[Int.natCast_add,Int.natCast_one];rfl)|simp only[Int.natCast_add,Int.natCast_one])⟩
 ·clear f0 f5 fM hx4
  rintro S H4 ⟨hx4,f0,f5,fM,z,rfl⟩
  (try simp only[aA])
  repeat' ((first|refine dI ?_|refine dH rfl ?_);(try simp only[aA]))
  simp only[cE]
  refine⟨i,by omega,hx4,by omega,f0,_,Qv',fun k=>Q k+c*sh i (s1:Ser (El f)) k,f5,fM,hQl3,⟨aE _ _,fun k=>?_,fun k hk=>?_,fun k hk=>?_⟩,aL rfl⟩
  ·rw[hdiv.eq k,py,oH,FQ,fo,bS]
   have hR0:p.length≤k→co R k=0:=fun h=>eT (by omega)
   by_cases h1:k<p.length
   ·rw[if_pos h1]
    by_cases h2:i≤k∧k<i+q.length
    ·rw[if_pos h2,fw _ h2.1]
     exact(show((cv Q (co q) k)+(co R k))=(((cv Q (co q) k)+(c*(co q (k-i))))+((co R k)-(c*(co q (k-i))))) from aj [(cv Q (co q) k),(co R k),c,(co q (k-i))] (.add (.v 0) (.v 1)) (.add (.add (.v 0) (.mul (.v 2) (.v 3))) (.add (.v 1) (.neg (.mul (.v 2) (.v 3))))) rfl)
    ·rw[if_neg h2]
     have hs0:sh i (co q) k=0:=by
      by_cases h3:i≤k
      ·rw[fw _ h3,eT (by omega)]
      ·rw[kH _ (by omega)]
     rw[hs0]
     exact(show((cv Q (co q) k)+(co R k))=(((cv Q (co q) k)+(c*0))+(co R k)) from aj [(cv Q (co q) k),(co R k),c] (.add (.v 0) (.v 1)) (.add (.add (.v 0) (.mul (.v 2) .zero)) (.v 1)) rfl)
   ·rw[if_neg h1,hR0 (by omega)]
    have hs0:sh i (co q) k=0:=by rw[fw _ (by omega),eT (by omega)]
    rw[hs0]
    exact(show((cv Q (co q) k)+0)=(((cv Q (co q) k)+(c*0))+0) from aj [(cv Q (co q) k),c] (.add (.v 0) .zero) (.add (.add (.v 0) (.mul (.v 1) .zero)) .zero) rfl)
  ·rw[bS]
   split
   ·by_cases h2:i≤k∧k<i+q.length
    ·rw[if_pos h2]
     have hkt:k=i+top:=by omega
     rw[hkt,show i+top-i=top by omega,←hc,mul_assoc,inv_mul hqt,mul_one,sub_self]
    ·rw[if_neg h2]
     exact hdiv.top k (by omega)
   ·rfl
  ·show Q k+c*sh i (s1:Ser (El f)) k=0
   rw[hdiv.qz k hk,fw _ (by omega)]
   unfold s1
   rw[if_neg (by omega),mul_zero,add_zero]
theorem Hm{lo:Nat}{H:Heap}{g:El f}{vp vq:Value}{p q:List (El f)}(hlo:lo≤H.length)(hg:Gn (OkC.ok (f:=f)) g)(hp:SlE H vp p)(hq:SlE H vq q)(hpo:PolyOK p)(hqo:PolyOK q)(hq0:0<q.length) :
  Ev cp lo 61 [fvf f,vp,vq] H (fun v H'=>Ext H H'∧∃vt vr R Q,v=.tuple #[vt,vr,.int .i64 0]∧SlE H' vr (trim R)∧DivR p q R Q (q.length-1)):=by
 have hp0:=hp
 have hq0':=hq
 obtain⟨ap,cpp,rfl⟩:=hp.len
 obtain⟨aq,cqq,rfl⟩:=hq.len
 have hpl:=hpo.len
 have hql:=hqo.len
 unfold fvf fv
 refine Sj ?_;unfold Kd E4;simp only[kB,aA]
 repeat' ((first|refine dI ?_|refine dH rfl ?_);(try simp only[aA]))
 generalize hG:H++_=G at *
 have g0:G.get H.length=some [.int .i64 (FD.ch f:Nat),.int .i64 (f.q:Nat),.int .i64 (f.poly:Nat)]:=by rw[←hG];exact aN
 have g1:G.get (H.length+1)=some [.slice ap p.length cpp,.slice aq q.length cqq]:=by rw[←hG,az];rfl
 have hxG:Ext H G:=by rw[←hG];exact Ext.app _ _
 clear hG
 refine iy ?_
 refine aC (JI (hp0.mono hxG) (hq0'.mono hxG) hpo hqo g1) ?_
 rintro v H1 ⟨hx1,rfl⟩
 have g0:=hx1.get g0
 have hx1:=hxG.trans hx1
 have hl1:=hx1.1
 (try simp only[aA])
 refine kO (fun h=>?_) (fun h=>?_)
 ·cases h
 clear h
 (try simp only[aA])
 refine kO (fun h=>?_) (fun h=>?_)
 ·exfalso;have:=of_decide_eq_true h;omega
 clear h
 (try simp only[aA])
 refine iy ?_
 refine aC (sP (f:=f) (by omega) hg) ?_
 rintro v H2 ⟨hx2,be,bl,hbe,hbl,rfl,harith⟩
 have hx2:=hx1.trans hx2
 have hl2:=hx2.1
 (try simp only[aA])
 refine iy ?_
 refine aC (ID (by omega) hg harith (hp0.mono hx2) (hq0'.mono hx2) (by omega) (by omega) hq0 (hqo.last.resolve_left (by omega))) ?_
 rintro v H3 ⟨hx3,vt,vr,R,Q,rfl,hs,hd⟩
 (try simp only[aA])
 repeat' ((first|refine dI ?_|refine dH rfl ?_);(try simp only[aA]))
 refine lU ?_
 exact⟨hx2.trans hx3,vt,vr,R,Q,rfl,hs,hd⟩
end
end Go.Proofs.YtmnlgdpdgjbfgaaGreat
