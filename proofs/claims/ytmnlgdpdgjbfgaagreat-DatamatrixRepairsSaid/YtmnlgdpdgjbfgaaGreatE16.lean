/- Lemmas. -/
import Derived.Test.YtmnlgdpdgjbfgaaGreatE10
import Derived.Test.YtmnlgdpdgjbfgaaGreatE14
import Derived.Test.YtmnlgdpdgjbfgaaGreatE15
set_option linter.unusedVariables false
set_option linter.unusedSimpArgs false
set_option linter.unusedSectionVars false
namespace Go.Proofs.YtmnlgdpdgjbfgaaGreat
open Go.Abs Go.RS
set_option maxRecDepth 20000
def cdI(ch sz po r b:Int):Value:=.agg #[.int .i64 ch,.int .i64 sz,.int .i64 po,.int .i64 r,.int .i64 b]
def nL(ch sz po r b:Int):Prop:=(∃f,OkF ch sz po f)∧1≤r∧r≤sz-2∧0≤b∧b≤sz-2
theorem tG{ch sz po:Int}(h:∃f,OkF ch sz po f):2≤sz∧sz≤4096:=by
 obtain⟨f,hf,h1,_⟩:=h
 have:=hf.two
 omega
set_option linter.defProp false in
def me:=And.intro @Int.cast_ofNat_Int (And.intro @fv.eq_1 (And.intro @fvf.eq_1 (And.intro @ite_self.{1} (And.intro @iI (And.intro @iE @iA)))))
theorem jI{P:Prop}(h:P:=by simp(disch:=first|omega|(simp only[aK];omega))only[evB,me,Nat.reduceAdd,Nat.reduceBEq, *];rfl):P:=h
theorem nb{cp:FuncId→Option CF}{lo:Nat}{l:List (Nat×E)}{chk:List E}{Q:aS}{S:List Value}{H:Heap}{vs:List (Nat×Value)}{S':List Value}(k:Q .normal S' H)(h:evSets S H l=some vs:=by exact jI)(hc:evChk S H chk=true:=by simp(disch:=first|omega|(simp only[aK];omega))only[evB,me,Nat.reduceAdd,Nat.reduceBEq, *])(hS:setAll S vs=S':=by exact jI):wpS cp lo (.sets l chk) Q S H:=cL h hc hS k
theorem Lr{cp:FuncId→Option CF}{lo:Nat}{l:List (Nat×E)}{chk:List E}{Q:aS}{S:List Value}{H:Heap}{vs:List (Nat×Value)}{dst:Option Nat}{o:HOp}{a:E}{xs:List Value}(k:wpH cp lo o xs H fun v H'=>Q .normal (setD (setAll S vs) dst v) H')(h:evSets S H l=some vs:=by exact jI)(hc:evChk S H chk=true:=by simp(disch:=first|omega|(simp only[aK];omega))only[evB,me,Nat.reduceAdd,Nat.reduceBEq, *])(ha:ev S H a=some xs:=by exact jI):wpS cp lo (.hv l chk [] dst o a) Q S H:=eC h hc ha k
theorem ng{cp:FuncId→Option CF}{lo:Nat}{l:List (Nat×E)}{chk:List E}{Q:aS}{S:List Value}{H:Heap}{vs:List (Nat×Value)}{dst:Option Nat}{o:HOp}{a:E}{xs:List Value}{S':List Value}{H':Heap}{v:Value}(hcall:o.isCall=false)(k:Q .normal S' H')(h:evSets S H l=some vs:=by exact jI)(hc:evChk S H chk=true:=by simp(disch:=first|omega|(simp only[aK];omega))only[evB,me,Nat.reduceAdd,Nat.reduceBEq, *])(ha:ev S H a=some xs:=by exact jI)(ho:bG lo o xs H=some (v,H'):=by exact jI)(hS:setD (setAll S vs) dst v=S':=by exact jI):wpS cp lo (.hv l chk [] dst o a) Q S H:=eG hcall h hc ha ho hS k
theorem VN{cp:FuncId→Option CF}{lo:Nat}{c:E}{a b:Stm}{Q:aS}{S:List Value}{H:Heap}{t:Bool}(k1:t=true→wpS cp lo a Q S H)(k2:t=false→wpS cp lo b Q S H)(h:ev1 S H c=some (.bool t):=by exact jI):wpS cp lo (.cond c a b) Q S H:=cJ h k1 k2
theorem tP{cf:CF}{R:Value→Heap→Prop}{S:List Value}{H:Heap}{vs:List Value}(k:R (aJ vs) H)(h:evList S H cf.res=some vs:=by exact jI):aG cf R .ret S H:=bT h k
theorem fits{lo:Nat}{H:Heap}{ch sz po r b:Int}(hs:-9223372036854775000≤sz)(hs2:sz≤9223372036854775807):Ev cp lo 101 [fv ch sz po,.int .i64 r,.int .i64 b] H (fun v H'=>Ext H H'∧v=.bool (((decide (1≤r)&&decide (r≤sz-2))&&decide (0≤b))&&decide (b≤sz-2))):=by
 unfold fv
 refine Py ?_;unfold CY xU;simp only[kB,aA]
 repeat' ((first|refine nb ?_|refine ng rfl ?_);(try simp only[aA]))
 refine tP ?_
 exact⟨Ext.app _ _,rfl⟩
set_option maxHeartbeats 1000000 in
theorem uT{lo:Nat}{H:Heap}{ch sz po r b:Int}{v:Value}{l:List Int}(hb:po≤9223372036854775807)(hl:SlI H v l)(hll:l.length≤9223372036854775807):Ev cp lo 58 [cdI ch sz po r b,v] H (fun v H'=>Ext H H'∧∃t,v=.bool t∧(t=true↔nL ch sz po r b∧inF sz l=true)):=by
 have hl0:=hl
 obtain⟨ad,c,rfl⟩:=hl.len
 unfold cdI
 refine Sb ?_;unfold Kg GN;simp only[kB,aA]
 repeat' ((first|refine nb ?_|refine ng rfl ?_);(try simp only[aA]))
 refine Lr ?_
 refine aC (valid (ch:=ch) (sz:=sz) (po:=po) hb) ?_
 rintro v H1 ⟨hx1,t1,rfl,ht1⟩
 have g0:H1.get H.length=some _:=hx1.get (jI)
 have hx1:=hx1.of_app
 cases t1 with
 | false=>
  have hnf:¬ ∃f,OkF ch sz po f:=fun h=>by have:=ht1.2 h;cases this
  (try simp only[aA])
  refine au (t:=false) (jI) (by simp(disch:=first|omega|(simp only[aK];omega))only[evB,me,Nat.reduceAdd,Nat.reduceBEq, *]) (by simp(disch:=first|omega|(simp only[aK];omega))only[evB,me,Nat.reduceAdd,Nat.reduceBEq, *];try rfl) (fun h=>by cases h) (fun _=>?_)
  (try simp only[aA])
  refine au (t:=false) (jI) (by simp(disch:=first|omega|(simp only[aK];omega))only[evB,me,Nat.reduceAdd,Nat.reduceBEq, *]) (by simp(disch:=first|omega|(simp only[aK];omega))only[evB,me,Nat.reduceAdd,Nat.reduceBEq, *];try rfl) (fun h=>by cases h) (fun _=>?_)
  (try simp only[aA])
  repeat' ((first|refine nb ?_|refine ng rfl ?_);(try simp only[aA]))
  refine tP ?_
  exact⟨hx1,false,rfl,by simp;intro h;exact absurd h.1 hnf⟩
 | true=>
  have hf:=ht1.1 rfl
  have hsz:=tG hf
  (try simp only[aA])
  refine au (t:=true) (jI) (by simp(disch:=first|omega|(simp only[aK];omega))only[evB,me,Nat.reduceAdd,Nat.reduceBEq, *]) (by simp(disch:=first|omega|(simp only[aK];omega))only[evB,me,Nat.reduceAdd,Nat.reduceBEq, *];try rfl) (fun _=>⟨_,jI,?_⟩) (fun h=>by cases h)
  refine aC (fits (ch:=ch) (sz:=sz) (po:=po) (r:=r) (b:=b) (by omega) (by omega)) ?_
  rintro v H2 ⟨hx2,rfl⟩
  have g0:=hx2.get g0
  have hx2:=hx1.trans hx2
  generalize ht2:(((decide (1≤r)&&decide (r≤sz-2))&&decide (0≤b))&&decide (b≤sz-2))=t2
  have ht2':t2=true↔1≤r∧r≤sz-2∧0≤b∧b≤sz-2:=by
   rw[←ht2];simp only[Bool.and_eq_true,decide_eq_true_eq];omega
  clear ht2
  cases t2 with
  | false=>
   have hnf:¬ (1≤r∧r≤sz-2∧0≤b∧b≤sz-2):=fun h=>by have:=ht2'.2 h;cases this
   (try simp only[aA])
   refine au (t:=false) (jI) (by simp(disch:=first|omega|(simp only[aK];omega))only[evB,me,Nat.reduceAdd,Nat.reduceBEq, *]) (by simp(disch:=first|omega|(simp only[aK];omega))only[evB,me,Nat.reduceAdd,Nat.reduceBEq, *];try rfl) (fun h=>by cases h) (fun _=>?_)
   (try simp only[aA])
   repeat' ((first|refine nb ?_|refine ng rfl ?_);(try simp only[aA]))
   refine tP ?_
   exact⟨hx2,false,rfl,by simp;intro h;exact absurd h.2 hnf⟩
  | true=>
   (try simp only[aA])
   refine au (t:=true) (jI) (by simp(disch:=first|omega|(simp only[aK];omega))only[evB,me,Nat.reduceAdd,Nat.reduceBEq, *]) (by simp(disch:=first|omega|(simp only[aK];omega))only[evB,me,Nat.reduceAdd,Nat.reduceBEq, *];try rfl) (fun _=>⟨_,jI,?_⟩) (fun h=>by cases h)
   refine aC (Af (ch:=ch) (sz:=sz) (po:=po) (hl0.mono hx2) hll) ?_
   rintro v H3 ⟨hx3,rfl⟩
   (try simp only[aA])
   repeat' ((first|refine nb ?_|refine ng rfl ?_);(try simp only[aA]))
   refine tP ?_
   exact⟨hx2.trans hx3,inF sz l,rfl,⟨fun h=>⟨⟨hf,ht2'.1 rfl⟩,h⟩,fun h=>h.2⟩⟩
theorem O1{lo:Nat}{H:Heap}{ch sz po r b n:Int}:Ev cp lo 59 [cdI ch sz po r b,.int .i64 n] H (fun v H'=>Ext H H'∧v=.bool (decide (r<n)&&decide (n<sz))):=by
 unfold cdI
 refine Uh ?_;unfold LY E9;simp only[kB,aA]
 repeat' ((first|refine nb ?_|refine ng rfl ?_);(try simp only[aA]))
 refine tP ?_
 exact⟨Ext.app _ _,rfl⟩
theorem DX{lo:Nat}{H:Heap}{ch sz po r b:Int}(hs2:sz≤9223372036854775807):Ev cp lo 64 [cdI ch sz po r b] H (fun v H'=>Ext H H'∧∃t,v=.bool t∧(t=true↔nL ch sz po r b)):=by
 unfold cdI
 refine Uv ?_;unfold Km Cf;simp only[kB,aA]
 repeat' ((first|refine nb ?_|refine ng rfl ?_);(try simp only[aA]))
 refine Lr ?_
 refine aC (Ee (ch:=ch) (sz:=sz) (po:=po) hs2) ?_
 rintro v H1 ⟨hx1,t1,rfl,ht1⟩
 have g0:H1.get H.length=some _:=hx1.get (jI)
 have hx1:=hx1.of_app
 cases t1 with
 | false=>
  (try simp only[aA])
  repeat' ((first|refine nb ?_|refine ng rfl ?_);(try simp only[aA]))
  refine tP ?_
  refine⟨hx1,false,rfl,?_⟩
  simp only[Bool.false_eq_true,false_iff]at ht1 ⊢
  exact fun h=>ht1 h.1
 | true=>
 have hbd:=tG (ht1.1 rfl)
 generalize ht:true=t1 at ht1
 (try simp only[aA])
 repeat' ((first|refine nb ?_|refine ng rfl ?_);(try simp only[aA]))
 refine tP ?_
 refine⟨hx1,_,rfl,?_⟩
 subst ht
 simp only[Bool.and_eq_true,decide_eq_true_eq,ht1.1 rfl,true_and,nL]
 constructor
 ·rintro⟨⟨⟨b,c⟩,d⟩,e⟩;exact⟨b,c,d,e⟩
 ·rintro⟨b,c,d,e⟩;exact⟨⟨⟨b,c⟩,d⟩,e⟩
theorem Br{lo:Nat}{H:Heap}{ch sz po:Int}{v:Value}{l:List Int}(hl:SlI H v l)(hll:l.length≤9223372036854775807):Ev cp lo 65 [fv ch sz po,v] H (fun v H'=>Ext H H'∧v=.bool (inF sz l)):=by
 have hl0:=hl
 obtain⟨ad,c,rfl⟩:=hl.len
 unfold fv
 refine SJ ?_;unfold M0 GD;simp only[kB,aA]
 repeat' ((first|refine nb ?_|refine ng rfl ?_);(try simp only[aA]))
 generalize hG:H++_=G at *
 have g0:G.get H.length=some [.int .i64 ch,.int .i64 sz,.int .i64 po]:=by rw[←hG];exact aN
 have hxG:Ext H G:=by rw[←hG];exact Ext.app _ _
 clear hG
 refine aU (fun i S H'=>Ext G H'∧inF sz (l.take i)=true∧∃(z:Nat→Value),S=[z 0,.slice ad l.length c,.pointer (some ⟨H.length,0,none⟩),.bool false,.int .i64 (i:Nat),z 5]) l.length ?_ ?_ ?_ ?_
 ·exact⟨Ext.refl _,rfl,aL rfl⟩
 ·rintro i S H' hi ⟨hx,-,z,rfl⟩
  exact⟨_,jI,by simp⟩
 ·rintro i S H1 hi ⟨hx,hin,z,rfl⟩
  obtain⟨b,o,sp,cap,xs,e,gx,hat,hxl⟩:=hl0.els 0 (by omega)
  cases e
  have gx:=(hxG.trans hx).get gx
  have g0:=hx.get g0
  have hati:=hat i hi
  have hs:=eZ (p:=fun x=>!(decide (x<0) || decide (sz≤x))) hi
  clear hat
  (try simp only[aA])
  refine Lr ?_
  refine aC (ris (ch:=ch) (sz:=sz) (po:=po) (x:=l.getD i 0)) ?_
  rintro v H2 ⟨hx2,rfl⟩
  have hx2:=hx.trans hx2
  have hneg:(!(decide (l.getD i 0<0) || decide (sz≤l.getD i 0)))=(decide (0≤l.getD i 0)&&decide (l.getD i 0<sz)):=by
   rw[Bool.eq_iff_iff];simp
  rw[hneg]at hs
  clear hneg
  (try simp only[aA])
  refine VN (fun h=>?_) (fun h=>?_)
  ·have hno:inF sz l=false:=by
    rw[Bool.eq_false_iff]
    intro hin2
    have:=gQ.1 hin2 (l.getD i 0) (by rw[List.getD_eq_getElem?_getD,List.getElem?_eq_getElem hi];exact List.getElem_mem hi)
    simp at h;simp at this;omega
   clear h hs
   (try simp only[aA])
   repeat' ((first|refine nb ?_|refine ng rfl ?_);(try simp only[aA]))
   refine tP ?_
   exact⟨hxG.trans hx2,by rw[hno];rfl⟩
  ·have hin2:inF sz (l.take (i+1))=true:=by
    have h:(decide (0≤l.getD i 0)&&decide (l.getD i 0<sz))=true:=by simpa using h
    unfold inF at hin ⊢
    rw[hs,hin,h];rfl
   clear h hs
   (try simp only[aA])
   repeat' ((first|refine nb ?_|refine ng rfl ?_);(try simp only[aA]))
   exact⟨hx2,hin2,aL (by first|rfl|(simp only[Int.natCast_add,Int.natCast_one];rfl)|simp only[Int.natCast_add,Int.natCast_one])⟩
 ·rintro S H1 ⟨hx,hin,z,rfl⟩
  rw[List.take_of_length_le (Nat.le_refl _)]at hin
  (try simp only[aA])
  repeat' ((first|refine nb ?_|refine ng rfl ?_);(try simp only[aA]))
  refine tP ?_
  exact⟨hxG.trans hx,by rw[hin];rfl⟩
theorem Pt{f:FD}{l:List Int}(h:inF (f.q:Int) l=true):∃le:List (El f),l=le.map fun x=>(x.val:Int):=by
 induction l with
 | nil=>exact⟨[],rfl⟩
 | cons a l ih=>
  have h2:=gQ.1 h
  have ha:=h2 a (by simp)
  obtain⟨le,hle⟩:=ih (gQ.2 fun x hx=>h2 x (by simp[hx]))
  refine⟨⟨a.toNat,by omega⟩::le,?_⟩
  rw[hle]
  simp
  omega
section
variable {ch sz po r b:Int}{v:Value}{l:List Int}{lo:Nat}{H:Heap}
end
section
variable {f:FD}[OkC f]
theorem sr{H:Heap}{v:Value}{l:List (El f)}(h:SlI H v (gT l)):SlE H v l:=by
 rcases h with ⟨h1,h2⟩|⟨b,o,sp,cap,xs,h1,h2,h3,h4⟩
 ·exact .inl ⟨h1,by simpa[gT]using h2⟩
 ·refine .inr ⟨b,o,sp,cap,xs,by rw[h1];simp[gT],h2,?_,by simpa[gT]using h4⟩
  simp only[gT,List.length_map,List.map_map]at h3
  exact h3
structure CdOK (f:FD)(r b:Nat):Prop where
 r1:1≤r
 r2:r≤f.q-2
 b2:b≤f.q-2
theorem pB{r b:Nat}(h:CdOK f r b):nL (FD.ch f) f.q f.poly r b:=by
 have h2:=qle (f:=f)
 obtain⟨a,b,c⟩:=h
 exact⟨jH (OkC.ok (f:=f)),by omega,by omega,by omega,by omega⟩
set_option linter.defProp false in
def rA:=And.intro @Int.cast_ofNat_Int (And.intro @fv.eq_1 (And.intro @fvf.eq_1 (And.intro @ite_self.{1} (And.intro @iI (And.intro @iE (And.intro @iA (And.intro @cdC.eq_1 (And.intro @arC.eq_1 (And.intro @iL (And.intro @bM (And.intro @eI @fJ)))))))))))
theorem kP{P:Prop}(h:P:=by simp(disch:=first|omega|(simp only[aK];omega))only[evB,rA,Nat.reduceAdd,Nat.reduceBEq, *];rfl):P:=h
theorem kJ{cp:FuncId→Option CF}{lo:Nat}{l:List (Nat×E)}{chk:List E}{Q:aS}{S:List Value}{H:Heap}{vs:List (Nat×Value)}{S':List Value}(k:Q .normal S' H)(h:evSets S H l=some vs:=by exact kP)(hc:evChk S H chk=true:=by simp(disch:=first|omega|(simp only[aK];omega))only[evB,rA,Nat.reduceAdd,Nat.reduceBEq, *])(hS:setAll S vs=S':=by exact kP):wpS cp lo (.sets l chk) Q S H:=cL h hc hS k
theorem rH{cp:FuncId→Option CF}{lo:Nat}{l:List (Nat×E)}{chk:List E}{Q:aS}{S:List Value}{H:Heap}{vs:List (Nat×Value)}{dst:Option Nat}{o:HOp}{a:E}{xs:List Value}(k:wpH cp lo o xs H fun v H'=>Q .normal (setD (setAll S vs) dst v) H')(h:evSets S H l=some vs:=by exact kP)(hc:evChk S H chk=true:=by simp(disch:=first|omega|(simp only[aK];omega))only[evB,rA,Nat.reduceAdd,Nat.reduceBEq, *])(ha:ev S H a=some xs:=by exact kP):wpS cp lo (.hv l chk [] dst o a) Q S H:=eC h hc ha k
theorem kS{cp:FuncId→Option CF}{lo:Nat}{l:List (Nat×E)}{chk:List E}{Q:aS}{S:List Value}{H:Heap}{vs:List (Nat×Value)}{dst:Option Nat}{o:HOp}{a:E}{xs:List Value}{S':List Value}{H':Heap}{v:Value}(hcall:o.isCall=false)(k:Q .normal S' H')(h:evSets S H l=some vs:=by exact kP)(hc:evChk S H chk=true:=by simp(disch:=first|omega|(simp only[aK];omega))only[evB,rA,Nat.reduceAdd,Nat.reduceBEq, *])(ha:ev S H a=some xs:=by exact kP)(ho:bG lo o xs H=some (v,H'):=by exact kP)(hS:setD (setAll S vs) dst v=S':=by exact kP):wpS cp lo (.hv l chk [] dst o a) Q S H:=eG hcall h hc ha ho hS k
theorem wi{cp:FuncId→Option CF}{lo:Nat}{c:E}{a b:Stm}{Q:aS}{S:List Value}{H:Heap}{t:Bool}(k1:t=true→wpS cp lo a Q S H)(k2:t=false→wpS cp lo b Q S H)(h:ev1 S H c=some (.bool t):=by exact kP):wpS cp lo (.cond c a b) Q S H:=cJ h k1 k2
theorem JO{cf:CF}{R:Value→Heap→Prop}{S:List Value}{H:Heap}{vs:List Value}(k:R (aJ vs) H)(h:evList S H cf.res=some vs:=by exact kP):aG cf R .ret S H:=bT h k
theorem Ia{lo:Nat}{H:Heap}{g:El f}{r b:Nat}(hlo:lo≤H.length)(hg:Gn (OkC.ok (f:=f)) g)(hc:CdOK f r b):Ev cp lo 60 [cdV f r b] H (fun v H'=>Ext H H'∧∃vs,v=.tuple #[vs,.int .i64 0]∧SlE H' vs (oy (fun i=>pw g (b+i)) r)):=by
 have h2:=qle (f:=f)
 have hok:=pB hc
 obtain⟨c1,c2,c3⟩:=hc
 unfold cdV
 refine Uj ?_;unfold Kv Cq;simp only[kB,aA]
 repeat' ((first|refine kJ ?_|refine kS rfl ?_);(try simp only[aA]))
 refine rH ?_
 refine aC (uT (ch:=FD.ch f) (sz:=f.q) (po:=f.poly) (r:=r) (b:=b) (l:=[]) (gW (OkC.ok (f:=f))) (.inl ⟨rfl,rfl⟩) (by simp)) ?_
 rintro v H1 ⟨hx1,t,rfl,ht⟩
 have g0:H1.get H.length=some _:=hx1.get (kP)
 have hx1:=hx1.of_app
 have htt:t=true:=ht.2 ⟨hok,rfl⟩
 subst htt
 have hl1:=hx1.1
 (try simp only[aA])
 refine wi (fun h=>?_) (fun h=>?_)
 ·cases h
 clear h
 (try simp only[aA])
 refine rH ?_
 refine aC (rR (f:=f) (by omega) hg) ?_
 rintro v H2 ⟨hx2,be,bl,hbe,hbl,rfl,harith⟩
 have hbe2:=harith.lt
 have g0:=hx2.get g0
 have hx2:=hx1.trans hx2
 have hl2:=Heap.get_lt g0
 unfold arV
 (try simp only[aA])
 repeat' ((first|refine kJ ?_|refine kS rfl ?_);(try simp only[aA]))
 generalize hG:H2++_=G at *
 have g1:G.get H2.length=some (arC f be bl):=by rw[←hG];exact aN
 have g2:G.get (H2.length+1)=some (elL (tab r (fun _=>(0:El f)))):=by rw[←hG,az,dK];rfl
 have g0:G.get H.length=some (cdC f r b):=by rw[←hG,ef (by omega)];exact g0
 have hxG:Ext H2 G:=by rw[←hG];exact Ext.app _ _
 have harith:=harith.mono hxG
 have hal:=harith.lt
 clear hG
 have hxG:=hx2.trans hxG
 generalize hp2:H2.length=p2 at *
 refine aU (fun i S H'=>Ext H H'∧H'.get H.length=some (cdC f r b)∧H'.get p2=some (arC f be bl)∧ArH H' g be bl∧H'.get (p2+1)=some (elL (tab r (fun k=>if k<i then pw g (b+k) else 0)))∧∃(z:Nat→Value),S=[z 0,.pointer (some ⟨H.length,0,none⟩),.slice none 0 0,.int .i64 0,.pointer (some ⟨p2,0,none⟩),.slice (some ⟨p2+1,0,none⟩) r r,z 6,z 7,z 8,z 9,.int .i64 (r:Nat),.int .i64 (i:Nat),z 12,z 13,z 14,z 15]) r ?_ ?_ ?_ ?_
 ·refine⟨hxG,g0,g1,harith,?_,aL rfl⟩
  rw[g2]
  refine congrArg (fun t=>some (elL t)) ?_
  exact aP fun k _=>(if_neg (by omega)).symm
 ·rintro i S H' hi ⟨hx,f0,f1,fa,f2,z,rfl⟩
  exact⟨_,kP,by simp⟩
 ·clear g0 g1 g2 hxG harith hal
  rintro i S H3 hi ⟨hx3,f0,f1,fa,f2,z,rfl⟩
  have hset:(tab r (fun k=>if k<i then pw g (b+k) else 0)).set i (pw g (b+i))=tab r (fun k=>if k<i+1 then pw g (b+k) else 0):=by
   rw[eQ]
   refine aP fun k hk=>?_
   by_cases e:k=i
   ·rw[if_pos e,if_pos (by omega),e]
   ·rw[if_neg e]
    by_cases h2:k<i
    ·rw[if_pos h2,if_pos (by omega)]
    ·rw[if_neg h2,if_neg (by omega)]
  have hlen2:(tab r (fun k=>if k<i then pw g (b+k) else 0)).length≤r∧r≤(tab r (fun k=>if k<i then pw g (b+k) else 0)).length:=by rw[aE];omega
  generalize tab r (fun k=>if k<i then pw g (b+k) else 0)=T at *
  have hbi:((b:Int)+(i:Int))=((b+i:Nat):Int):=by omega
  (try simp only[aA])
  repeat' ((first|refine kJ ?_|refine kS rfl ?_);(try simp only[aA]))
  refine rH ?_
  refine aC (nv hg fa (b+i) (by omega)) ?_
  rintro v H4 ⟨hx4,rfl⟩
  have f0:=(hx4).get f0;have f1:=(hx4).get f1;have f2:=(hx4).get f2
  have fa:=fa.mono hx4
  have hx4:=hx3.trans hx4
  have hl4:=Heap.get_lt f2
  clear hbi
  (try simp only[aA])
  repeat' ((first|refine kJ ?_|refine kS rfl ?_);(try simp only[aA]))
  exact⟨hx4.set (by omega),by simp(disch:=first|omega|(simp only[aK];omega))only[evB,rA,Nat.reduceAdd,Nat.reduceBEq, *],by simp(disch:=first|omega|(simp only[aK];omega))only[evB,rA,Nat.reduceAdd,Nat.reduceBEq, *],fa.keep ⟨by simp,fun i hi hne=>aM (fun e=>hne e.symm)⟩ (by omega) (by omega),by rw[aI (by omega)],aL (by first|rfl|(simp only[Int.natCast_add,Int.natCast_one];rfl)|simp only[Int.natCast_add,Int.natCast_one])⟩
 ·rintro S H3 ⟨hx3,f0,f1,fa,f2,z,rfl⟩
  have hT:tab r (fun k=>if k<r then pw g (b+k) else 0)=tab r (fun k=>pw g (b+k)):=aP fun k hk=>if_pos hk
  rw[hT]at f2
  have hl3:=hx3.1
  have hrl:=aE r (fun k=>pw g (b+k))
  (try simp only[aA])
  refine rH ?_
  refine aC (yk (by omega) hg (aY (sp:=none) f2 hrl) (by rw[hrl];omega)) ?_
  rintro v H4 ⟨hx4,vp,rfl,f4⟩
  rw[hrl]at f4
  have hgp:oy (co (tab r (fun k=>pw g (b+k)))) r=oy (fun i=>pw g (b+i)) r:=by
   unfold oy
   rw[ud (fun i hi=>by rw[bS,if_pos hi])]
  rw[hgp]at f4
  (try simp only[aA])
  repeat' ((first|refine kJ ?_|refine kS rfl ?_);(try simp only[aA]))
  refine JO ?_
  exact⟨hx3.trans hx4,_,rfl,f4⟩
end
section
variable {f:FD}[OkC f]
structure IsEnc (g:El f)(r b:Nat)(d w:List (El f)):Prop where
 len:w.length=d.length+r
 dat:∀i,i<d.length→co w i=co d i
 cw:Hj (fun i=>pw g (b+i)) r w
theorem M7{g:El f}(hg:Gn (OkC.ok (f:=f)) g){r b:Nat}(hc:CdOK f r b):∀i j,i<r→j<r→pw g (b+i)=pw g (b+j)→i=j:=by
 intro i j hi hj e
 have h2:=qle (f:=f)
 rw[eU,eU]at e
 have e2:=mul_left_cancel (bL (eY hg) b) e
 exact p0 (eY hg) (cU hg) i j (by have:=hc.r2;omega) (by have:=hc.r2;omega) e2
theorem Fx{g:El f}(hg:Gn (OkC.ok (f:=f)) g){r b:Nat}(hc:CdOK f r b){d w w':List (El f)}(h:IsEnc g r b d w)(h':IsEnc g r b d w'):w=w':=by
 have hl:=h.len
 have hl':=h'.len
 refine HN hc.r1 (M7 hg hc) (fun i _=>bL (eY hg) _) h.cw h'.cw (by omega) (by omega) (fun i hi=>?_)
 rw[h.dat i (by omega),h'.dat i (by omega)]
theorem Ig{R:List (El f)}{r:Nat}(h:∀k,r≤k→co R k=0):(trim R).length≤r:=by
 apply Decidable.byContradiction
 intro hc
 have hne:trim R≠[]:=by intro e;rw[e]at hc;simp at hc
 exact nG R hne (h _ (by omega))
set_option maxHeartbeats 4000000 in
theorem D8{lo:Nat}{H:Heap}{g:El f}{v:Value}{d:List (El f)}{r b:Nat}(hlo:lo≤H.length)(hg:Gn (OkC.ok (f:=f)) g)(hc:CdOK f r b)(hd:SlE H v d)(hdl:d.length≤10000000) :
  Ev cp lo 29 [cdV f r b,v] H (fun v H'=>Ext H H'∧((0<d.length∧d.length+r<f.q∧∃vs w,v=.tuple #[vs,.int .i64 0]∧SlE H' vs w∧NewV H.length vs∧IsEnc g r b d w)∨(¬ (0<d.length∧d.length+r<f.q)∧v=.tuple #[.slice none 0 0,.int .i64 7]))):=by
 have h2:=qle (f:=f)
 have hd0:=hd
 have hok:=pB hc
 have hc0:=hc
 obtain⟨c1,c2,c3⟩:=hc
 obtain⟨ad,cd,rfl⟩:=hd.len
 have hnr:((d.length:Int)+(r:Int))=((d.length+r:Nat):Int):=by omega
 unfold cdV
 refine Ti ?_;unfold MA Gd;simp only[kB,aA]
 repeat' ((first|refine kJ ?_|refine kS rfl ?_);(try simp only[aA]))
 refine rH ?_
 refine aC (uT (ch:=FD.ch f) (sz:=f.q) (po:=f.poly) (r:=r) (b:=b) (gW (OkC.ok (f:=f))) (lN (hd0.mono (Ext.app _ _))) (by rw[fO];omega)) ?_
 rintro v H1 ⟨hx1,t,rfl,ht⟩
 have g0:H1.get H.length=some _:=hx1.get (kP)
 have hx1:=hx1.of_app
 have htt:t=true:=ht.2 ⟨hok,gq d⟩
 subst htt
 (try simp only[aA])
 refine wi (fun h=>?_) (fun h=>?_)
 ·cases h
 clear h
 (try simp only[aA])
 by_cases hd1:0<d.length
 rotate_left
 ·have hdz:(d.length:Int)=0:=by omega
  refine au (t:=false) (kP) (by simp(disch:=first|omega|(simp only[aK];omega))only[evB,rA,Nat.reduceAdd,Nat.reduceBEq, *]) (by simp(disch:=first|omega|(simp only[aK];omega))only[evB,rA,Nat.reduceAdd,Nat.reduceBEq, *];try rfl) (fun h=>by cases h) (fun _=>?_)
  (try simp only[aA])
  refine wi (fun h=>?_) (fun h=>?_)
  ·clear h
   (try simp only[aA])
   repeat' ((first|refine kJ ?_|refine kS rfl ?_);(try simp only[aA]))
   refine JO ?_
   exact⟨hx1,.inr ⟨by omega,rfl⟩⟩
  ·cases h
 have hdz:¬ (d.length:Int)=0:=by omega
 refine au (t:=true) (kP) (by simp(disch:=first|omega|(simp only[aK];omega))only[evB,rA,Nat.reduceAdd,Nat.reduceBEq, *]) (by simp(disch:=first|omega|(simp only[aK];omega))only[evB,rA,Nat.reduceAdd,Nat.reduceBEq, *];try rfl) (fun _=>⟨_,kP,?_⟩) (fun h=>by cases h)
 refine aC (O1 (ch:=FD.ch f) (sz:=f.q) (po:=f.poly) (r:=r) (b:=b) (n:=((d.length+r:Nat):Int))) ?_
 rintro v H2 ⟨hx2,rfl⟩
 have g0:=hx2.get g0
 have hx2:=hx1.trans hx2
 have hl2:=Heap.get_lt g0
 by_cases hlen:d.length+r<f.q
 rotate_left
 ·(try simp only[aA])
  refine wi (fun h=>?_) (fun h=>?_)
  ·clear h
   (try simp only[aA])
   repeat' ((first|refine kJ ?_|refine kS rfl ?_);(try simp only[aA]))
   refine JO ?_
   exact⟨hx2,.inr ⟨by omega,rfl⟩⟩
  ·exfalso;simp at h;omega
 (try simp only[aA])
 refine wi (fun h=>?_) (fun h=>?_)
 ·exfalso;simp at h;omega
 clear h
 (try simp only[aA])
 refine rH ?_
 refine aC (Ia (f:=f) (by omega) hg hc0) ?_
 rintro v H3 ⟨hx3,vg,rfl,hgen⟩
 have g0:=hx3.get g0
 have hx3:=hx2.trans hx3
 have hl3:=Heap.get_lt g0
 have hgl:=pt (fun i=>pw g (b+i)) r
 generalize hn:d.length+r=n at *
 (try simp only[aA])
 repeat' ((first|refine kJ ?_|refine kS rfl ?_);(try simp only[aA]))
 refine wi (fun h=>?_) (fun h=>?_)
 ·simp at h
 clear h
 (try simp only[aA])
 repeat' ((first|refine kJ ?_|refine kS rfl ?_);(try simp only[aA]))
 have hg0:H3.get H.length=some (cdC f r b):=g0
 clear g0
 generalize hG:H3++_=G at *
 have g1:G.get H3.length=some (elL (tab n (fun _=>(0:El f)))):=by rw[←hG,aN,dK]
 have hxG:Ext H3 G:=by rw[←hG];exact Ext.app _ _
 clear hG
 refine aU (fun i S H'=>Ext H3 H'∧H'.get H3.length=some (elL (tab n (fun k=>if n-i≤k then co d (n-1-k) else 0)))∧∃(z:Nat→Value),S=[z 0,.slice ad d.length cd,.pointer (some ⟨H.length,0,none⟩),.slice none 0 0,.int .i64 0,vg,z 6,.int .i64 (n:Nat),.slice (some ⟨H3.length,0,none⟩) n n,z 9,z 10,z 11,z 12,z 13,z 14,z 15,z 16,z 17,z 18,z 19,.slice ad d.length cd,.int .i64 (d.length:Nat),.int .i64 (i:Nat),z 23,z 24,z 25,z 26,z 27,z 28,z 29,z 30,z 31,z 32,z 33,z 34]) d.length ?_ ?_ ?_ ?_
 ·refine⟨hxG,?_,aL rfl⟩
  rw[g1]
  refine congrArg (fun t=>some (elL t)) ?_
  exact aP fun k _=>(if_neg (by omega)).symm
 ·rintro i S H' hi ⟨hx,f1,z,rfl⟩
  exact⟨_,kP,by simp⟩
 ·clear g1 hxG
  rintro i S H4 hi ⟨hx4,f1,z,rfl⟩
  obtain⟨bd,od,sp,cap,xs,e,gx,hat,hxl⟩:=cK hd0 hd1
  cases e
  have gx:=(hx3.trans hx4).get gx
  have hati:=hat i hi
  have hidx:((n:Int)-1-(i:Int))=((n-1-i:Nat):Int):=by omega
  have hset:(tab n (fun k=>if n-i≤k then co d (n-1-k) else 0)).set (n-1-i) (co d i)=tab n (fun k=>if n-(i+1)≤k then co d (n-1-k) else 0):=by
   rw[eQ]
   refine aP fun k hk=>?_
   by_cases e:k=n-1-i
   ·rw[if_pos e,if_pos (by omega),e,show n-1-(n-1-i)=i by omega]
   ·rw[if_neg e]
    by_cases h2:n-i≤k
    ·rw[if_pos h2,if_pos (by omega)]
    ·rw[if_neg h2,if_neg (by omega)]
  have hlen2:(tab n (fun k=>if n-i≤k then co d (n-1-k) else 0)).length≤n∧n≤(tab n (fun k=>if n-i≤k then co d (n-1-k) else 0)).length:=by rw[aE];omega
  generalize tab n (fun k=>if n-i≤k then co d (n-1-k) else 0)=T at *
  have hl4:=Heap.get_lt f1
  clear hat
  (try simp only[aA])
  repeat' ((first|refine kJ ?_|refine kS rfl ?_);(try simp only[aA]))
  exact⟨hx4.set (Nat.le_refl _),by rw[aI (by omega)],aL (by first|rfl|(simp only[Int.natCast_add,Int.natCast_one];rfl)|simp only[Int.natCast_add,Int.natCast_one])⟩
 clear g1 hxG
 rintro S H4 ⟨hx4,f1,z,rfl⟩
 have hST:tab n (fun k=>if n-d.length≤k then co d (n-1-k) else 0)=tab n (fun k=>if r≤k∧k<n then co d (n-1-k) else 0):=by
  refine aP fun k hk=>?_
  by_cases h:r≤k
  ·rw[if_pos (by omega),if_pos ⟨h,hk⟩]
  ·rw[if_neg (by omega),if_neg (by omega)]
 rw[hST]at f1
 clear hST
 have hcoS:∀k,co (tab n (fun k=>if r≤k∧k<n then co d (n-1-k) else 0)) k=if r≤k∧k<n then co d (n-1-k) else 0:=by
  intro k
  rw[bS]
  split
  ·rfl
  ·rw[if_neg (by omega)]
 have hSl:=aE n (fun k=>if r≤k∧k<n then co d (n-1-k) else 0)
 generalize tab n (fun k=>if r≤k∧k<n then co d (n-1-k) else 0)=S0 at *
 have hg4:=hx4.get hg0
 have hl4:=(hx3.trans hx4).1
 unfold cdC at hg4
 (try simp only[aA])
 refine rH ?_
 refine aQ (E1 (Nat.le_refl _) (aY (sp:=none) f1 hSl) (by omega)) ?_
 rintro v H5 ⟨hx5,hs5⟩
 have hg5:=hx5.get hg4
 have hx5:=hx4.trans hx5
 have hl5:=(hx3.trans hx5).1
 have htl:=ic S0
 clear hg4
 (try simp only[aA])
 refine rH ?_
 refine aC (Hm (by omega) hg hs5 (hgen.mono hx5) ⟨by omega,?_⟩ ⟨by rw[hgl];omega,.inr ?_⟩ (by rw[hgl];omega)) ?_
 ·by_cases e:trim S0=[]
  ·left;rw[e];rfl
  ·right;rw[gU];exact nG S0 e
 ·rw[hgl,uQ,Nat.add_sub_cancel,De];exact gM
 rintro v H6 ⟨hx6,vt,vr,R,Q,rfl,hsR,hdiv⟩
 rw[hgl,Nat.add_sub_cancel]at hdiv
 have hg6:=hx6.get hg5
 have hx6:=hx5.trans hx6
 have hl6:=(hx3.trans hx6).1
 have hRl:=Ig hdiv.top
 have hsR0:=hsR
 obtain⟨aR,cR,rfl⟩:=hsR.len
 clear hg5
 (try simp only[aA])
 repeat' ((first|refine kJ ?_|refine kS rfl ?_);(try simp only[aA]))
 refine wi (fun h=>?_) (fun h=>?_)
 ·simp at h
 clear h
 (try simp only[aA])
 repeat' ((first|refine kJ ?_|refine kS rfl ?_);(try simp only[aA]))
 generalize hG:H6++_=G at *
 have g1:G.get H6.length=some (elL (List.replicate n (0:El f))):=by rw[←hG,aN]
 have hxG:Ext H6 G:=by rw[←hG];exact Ext.app _ _
 clear hG
 have hl7:=Heap.get_lt g1
 refine rH ?_
 refine Ab (by omega) g1 (by simp) (hd0.mono (hx3.trans (hx6.trans hxG))) (by simp;omega) ?_
 intro w0
 rw[oU d (by omega)]
 generalize hG2:G.set H6.length _=G2
 have g1:Heap.get G2 H6.length=some (elL (tab n (co d))):=by rw[←hG2,aI (by omega)]
 have hxG:Ext H6 G2:=by rw[←hG2];exact hxG.set (Nat.le_refl _)
 clear hG2 hl7
 (try simp only[aA])
 repeat' ((first|refine kJ ?_|refine kS rfl ?_);(try simp only[aA]))
 refine aU (fun i S H'=>Ext H6 H'∧H'.get H6.length=some (elL (tab n (fun k=>if n-i≤k then-co R (n-1-k) else co d k)))∧∃(z:Nat→Value),S=[z 0,z 1,.pointer (some ⟨H.length,0,none⟩),.slice none 0 0,.int .i64 0,z 5,z 6,.int .i64 (n:Nat),z 8,z 9,z 10,z 11,.slice (some ⟨H6.length,0,none⟩) n n,z 13,z 14,z 15,z 16,z 17,z 18,z 19,z 20,z 21,z 22,z 23,z 24,z 25,z 26,z 27,.slice aR (trim R).length cR,.int .i64 ((trim R).length:Nat),.int .i64 (i:Nat),z 31,z 32,z 33,z 34]) (trim R).length ?_ ?_ ?_ ?_
 ·refine⟨hxG,?_,aL rfl⟩
  rw[g1]
  refine congrArg (fun t=>some (elL t)) ?_
  exact aP fun k hk=>(if_neg (by omega)).symm
 ·rintro i S H' hi ⟨hx,f1,z,rfl⟩
  exact⟨_,kP,by simp⟩
 ·clear g1 hxG
  rintro i S H7 hi ⟨hx7,f1,z,rfl⟩
  obtain⟨bd,od,sp,cap,xs,e,gx,hat,hxl⟩:=cK hsR0 (by omega)
  cases e
  have gx:=hx7.get gx
  have hati:=hat i hi
  rw[gU]at hati
  have hg7:=hx7.get hg6
  have hidx:((n:Int)-1-(i:Int))=((n-1-i:Nat):Int):=by omega
  have hset:(tab n (fun k=>if n-i≤k then-co R (n-1-k) else co d k)).set (n-1-i) (- co R i)=tab n (fun k=>if n-(i+1)≤k then-co R (n-1-k) else co d k):=by
   rw[eQ]
   refine aP fun k hk=>?_
   by_cases e:k=n-1-i
   ·rw[if_pos e,if_pos (by omega),e,show n-1-(n-1-i)=i by omega]
   ·rw[if_neg e]
    by_cases h2:n-i≤k
    ·rw[if_pos h2,if_pos (by omega)]
    ·rw[if_neg h2,if_neg (by omega)]
  have hlen2:(tab n (fun k=>if n-i≤k then-co R (n-1-k) else co d k)).length≤n∧n≤(tab n (fun k=>if n-i≤k then-co R (n-1-k) else co d k)).length:=by rw[aE];omega
  generalize tab n (fun k=>if n-i≤k then-co R (n-1-k) else co d k)=T at *
  have hneg:mF f 0 (co R i).val=(- co R i).val:=by
   rw[pD (OkC.ok (f:=f)) (by omega) (co R i).lt]
   show((0:El f)+- co R i).val=_
   rw[zero_add]
  clear hat
  (try simp only[aA])
  repeat' ((first|refine kJ ?_|refine kS rfl ?_);(try simp only[aA]))
  refine rH ?_
  refine aC (KV (f:=f) (OkC.ok (f:=f)) (a:=0) (b:=(co R i).val) (by omega) (co R i).lt) ?_
  rintro v H8 ⟨hx8,rfl⟩
  rw[hneg]
  have f1:=hx8.get f1
  have hx8:=hx7.trans hx8
  have hl8:=Heap.get_lt f1
  clear hneg
  (try simp only[aA])
  repeat' ((first|refine kJ ?_|refine kS rfl ?_);(try simp only[aA]))
  refine wi (fun h=>?_) (fun h=>?_)
  ·simp at h
  clear h
  (try simp only[aA])
  repeat' ((first|refine kJ ?_|refine kS rfl ?_);(try simp only[aA]))
  exact⟨hx8.set (Nat.le_refl _),by rw[aI (by omega)],aL (by first|rfl|(simp only[Int.natCast_add,Int.natCast_one];rfl)|simp only[Int.natCast_add,Int.natCast_one])⟩
 ·rintro S H7 ⟨hx7,f1,z,rfl⟩
  (try simp only[aA])
  repeat' ((first|refine kJ ?_|refine kS rfl ?_);(try simp only[aA]))
  refine JO ?_
  refine⟨hx3.trans (hx6.trans hx7),.inl ⟨hd1,hlen,_,_,rfl,aY f1 (aE _ _),NewV.mk (by omega),?_⟩⟩
  have hw:tab n (fun k=>if n-(trim R).length≤k then-co R (n-1-k) else co d k)=tab n (fun k=>if k<d.length then co d k else-co R (n-1-k)):=by
   refine aP fun k hk=>?_
   by_cases h1:k<d.length
   ·rw[if_pos h1,if_neg (by omega)]
   ·rw[if_neg h1]
    by_cases h3:n-(trim R).length≤k
    ·rw[if_pos h3]
    ·rw[if_neg h3,eT (l:=d) (by omega),←gU R,eT (l:=trim R) (by omega),neg_zero]
  rw[hw]
  refine⟨by rw[aE];omega,fun i hi=>by rw[bS,if_pos (by omega),if_pos hi],?_⟩
  refine Hz (n:=n) (data:=d) (S:=S0) (R:=R) (Q:=Q) (N:=(trim S0).length) (by omega) hcoS (fun k=>?_) hdiv.top hdiv.qz (aE _ _) (fun i hi=>by rw[bS,if_pos (by omega),if_pos hi]) (fun k hk=>?_)
  ·rw[←gU S0,hdiv.eq k,uQ]
  ·rw[bS,if_pos (by omega),if_neg (by omega),show n-1-(n-1-k)=k by omega]
end
section
variable {f:FD}[OkC f]
end
end Go.Proofs.YtmnlgdpdgjbfgaaGreat
