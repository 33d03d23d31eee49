/- Reed-Solomon codes: the tests of codes and words, in the program and in the reference; lists held against each other. Reed-Solomon codes: Syndromes, Locator and Generator, in the program and in the reference. Reed-Solomon codes: Encode of the program. Reed-Solomon codes: Encode of the reference. -/
import Derived.Test.YtmnlgdpdgjbfgaaGreatD10
import Derived.Test.YtmnlgdpdgjbfgaaGreatD14
import Derived.Test.YtmnlgdpdgjbfgaaGreatD15
set_option linter.unusedVariables false
set_option linter.unusedSimpArgs false
set_option linter.unusedSectionVars false
namespace Go.Proofs.YtmnlgdpdgjbfgaaGreat
open Go.Abs Go.RS
set_option linter.unusedSimpArgs false
set_option linter.unusedVariables false
set_option maxRecDepth 20000
def cdI(ch sz po r b:Int):Value:=.agg #[.int .i64 ch,.int .i64 sz,.int .i64 po,.int .i64 r,.int .i64 b]
def OkCd(ch sz po r b:Int):Prop:=(∃f,OkF ch sz po f)∧1≤r∧r≤sz-2∧0≤b∧b≤sz-2
theorem okF_sz{ch sz po:Int}(h:∃f,OkF ch sz po f):2≤sz∧sz≤4096:=by
 obtain⟨f,hf,h1,_⟩:=h
 have:=hf.two
 omega
set_option linter.defProp false in
def xBRa:=And.intro @Int.cast_ofNat_Int (And.intro @fv.eq_1 (And.intro @fvf.eq_1 (And.intro @ite_self.{1} (And.intro @ite_st (And.intro @ite_sf @ite_nt)))))
theorem xERa{P:Prop}(h:P:=by simp(disch:=first|omega|(simp only[lenB];omega))only[evB,xBRa,Nat.reduceAdd,Nat.reduceBEq, *];rfl):P:=h
theorem xSRa{cp:FuncId→Option CF}{lo:Nat}{l:List (Nat×E)}{chk:List E}{Q:Post}{S:List Value}{H:Heap}{vs:List (Nat×Value)}{S':List Value}(k:Q .normal S' H)(h:evSets S H l=some vs:=by exact xERa)(hc:evChk S H chk=true:=by simp(disch:=first|omega|(simp only[lenB];omega))only[evB,xBRa,Nat.reduceAdd,Nat.reduceBEq, *])(hS:setAll S vs=S':=by exact xERa):wpS cp lo (.sets l chk) Q S H:=aw_sets h hc hS k
theorem xHRa{cp:FuncId→Option CF}{lo:Nat}{l:List (Nat×E)}{chk:List E}{Q:Post}{S:List Value}{H:Heap}{vs:List (Nat×Value)}{dst:Option Nat}{o:HOp}{a:E}{xs:List Value}(k:wpH cp lo o xs H fun v H'=>Q .normal (setD (setAll S vs) dst v) H')(h:evSets S H l=some vs:=by exact xERa)(hc:evChk S H chk=true:=by simp(disch:=first|omega|(simp only[lenB];omega))only[evB,xBRa,Nat.reduceAdd,Nat.reduceBEq, *])(ha:ev S H a=some xs:=by exact xERa):wpS cp lo (.hv l chk [] dst o a) Q S H:=aw_hv h hc ha k
theorem xORa{cp:FuncId→Option CF}{lo:Nat}{l:List (Nat×E)}{chk:List E}{Q:Post}{S:List Value}{H:Heap}{vs:List (Nat×Value)}{dst:Option Nat}{o:HOp}{a:E}{xs:List Value}{S':List Value}{H':Heap}{v:Value}(hcall:o.isCall=false)(k:Q .normal S' H')(h:evSets S H l=some vs:=by exact xERa)(hc:evChk S H chk=true:=by simp(disch:=first|omega|(simp only[lenB];omega))only[evB,xBRa,Nat.reduceAdd,Nat.reduceBEq, *])(ha:ev S H a=some xs:=by exact xERa)(ho:hsem0 lo o xs H=some (v,H'):=by exact xERa)(hS:setD (setAll S vs) dst v=S':=by exact xERa):wpS cp lo (.hv l chk [] dst o a) Q S H:=aw_op hcall h hc ha ho hS k
theorem xCRa{cp:FuncId→Option CF}{lo:Nat}{c:E}{a b:Stm}{Q:Post}{S:List Value}{H:Heap}{t:Bool}(k1:t=true→wpS cp lo a Q S H)(k2:t=false→wpS cp lo b Q S H)(h:ev1 S H c=some (.bool t):=by exact xERa):wpS cp lo (.cond c a b) Q S H:=aw_cond h k1 k2
theorem xRRa{cf:CF}{R:Value→Heap→Prop}{S:List Value}{H:Heap}{vs:List Value}(k:R (resultOf vs) H)(h:evList S H cf.res=some vs:=by exact xERa):bodyQ cf R .ret S H:=body_ret h k
theorem fits{lo:Nat}{H:Heap}{ch sz po r b:Int}(hs:-9223372036854775000≤sz)(hs2:sz≤9223372036854775807):Ev cp lo 101 [fv ch sz po,.int .i64 r,.int .i64 b] H (fun v H'=>Ext H H'∧v=.bool (((decide (1≤r)&&decide (r≤sz-2))&&decide (0≤b))&&decide (b≤sz-2))):=by
 unfold fv
 refine st101 ?_;unfold bd101 cf101;simp only[kB,ctlB]
 repeat' ((first|refine xSRa ?_|refine xORa rfl ?_);(try simp only[ctlB]))
 refine xRRa ?_
 exact⟨Ext.app _ _,rfl⟩
set_option maxHeartbeats 1000000 in
theorem rsvalid{lo:Nat}{H:Heap}{ch sz po r b:Int}{v:Value}{l:List Int}(hb:po≤9223372036854775807)(hl:SlI H v l)(hll:l.length≤9223372036854775807):Ev cp lo 58 [cdI ch sz po r b,v] H (fun v H'=>Ext H H'∧∃t,v=.bool t∧(t=true↔OkCd ch sz po r b∧inF sz l=true)):=by
 have hl0:=hl
 obtain⟨ad,c,rfl⟩:=hl.len
 unfold cdI
 refine st58 ?_;unfold bd58 cf58;simp only[kB,ctlB]
 repeat' ((first|refine xSRa ?_|refine xORa rfl ?_);(try simp only[ctlB]))
 refine xHRa ?_
 refine wpH_call0 (valid (ch:=ch) (sz:=sz) (po:=po) hb) ?_
 rintro v H1 ⟨hx1,t1,rfl,ht1⟩
 have g0:H1.get H.length=some _:=hx1.get (xERa)
 have hx1:=hx1.of_app
 cases t1 with
 | false=>
  have hnf:¬ ∃f,OkF ch sz po f:=fun h=>by have:=ht1.2 h;cases this
  (try simp only[ctlB])
  refine aw_hv_if (t:=false) (xERa) (by simp(disch:=first|omega|(simp only[lenB];omega))only[evB,xBRa,Nat.reduceAdd,Nat.reduceBEq, *]) (by simp(disch:=first|omega|(simp only[lenB];omega))only[evB,xBRa,Nat.reduceAdd,Nat.reduceBEq, *];try rfl) (fun h=>by cases h) (fun _=>?_)
  (try simp only[ctlB])
  refine aw_hv_if (t:=false) (xERa) (by simp(disch:=first|omega|(simp only[lenB];omega))only[evB,xBRa,Nat.reduceAdd,Nat.reduceBEq, *]) (by simp(disch:=first|omega|(simp only[lenB];omega))only[evB,xBRa,Nat.reduceAdd,Nat.reduceBEq, *];try rfl) (fun h=>by cases h) (fun _=>?_)
  (try simp only[ctlB])
  repeat' ((first|refine xSRa ?_|refine xORa rfl ?_);(try simp only[ctlB]))
  refine xRRa ?_
  exact⟨hx1,false,rfl,by simp;intro h;exact absurd h.1 hnf⟩
 | true=>
  have hf:=ht1.1 rfl
  have hsz:=okF_sz hf
  (try simp only[ctlB])
  refine aw_hv_if (t:=true) (xERa) (by simp(disch:=first|omega|(simp only[lenB];omega))only[evB,xBRa,Nat.reduceAdd,Nat.reduceBEq, *]) (by simp(disch:=first|omega|(simp only[lenB];omega))only[evB,xBRa,Nat.reduceAdd,Nat.reduceBEq, *];try rfl) (fun _=>⟨_,xERa,?_⟩) (fun h=>by cases h)
  refine wpH_call0 (fits (ch:=ch) (sz:=sz) (po:=po) (r:=r) (b:=b) (by omega) (by omega)) ?_
  rintro v H2 ⟨hx2,rfl⟩
  have g0:=hx2.get g0
  have hx2:=hx1.trans hx2
  generalize ht2:(((decide (1≤r)&&decide (r≤sz-2))&&decide (0≤b))&&decide (b≤sz-2))=t2
  have ht2':t2=true↔1≤r∧r≤sz-2∧0≤b∧b≤sz-2:=by
   rw[←ht2];simp only[Bool.and_eq_true,decide_eq_true_eq];omega
  clear ht2
  cases t2 with
  | false=>
   have hnf:¬ (1≤r∧r≤sz-2∧0≤b∧b≤sz-2):=fun h=>by have:=ht2'.2 h;cases this
   (try simp only[ctlB])
   refine aw_hv_if (t:=false) (xERa) (by simp(disch:=first|omega|(simp only[lenB];omega))only[evB,xBRa,Nat.reduceAdd,Nat.reduceBEq, *]) (by simp(disch:=first|omega|(simp only[lenB];omega))only[evB,xBRa,Nat.reduceAdd,Nat.reduceBEq, *];try rfl) (fun h=>by cases h) (fun _=>?_)
   (try simp only[ctlB])
   repeat' ((first|refine xSRa ?_|refine xORa rfl ?_);(try simp only[ctlB]))
   refine xRRa ?_
   exact⟨hx2,false,rfl,by simp;intro h;exact absurd h.2 hnf⟩
  | true=>
   (try simp only[ctlB])
   refine aw_hv_if (t:=true) (xERa) (by simp(disch:=first|omega|(simp only[lenB];omega))only[evB,xBRa,Nat.reduceAdd,Nat.reduceBEq, *]) (by simp(disch:=first|omega|(simp only[lenB];omega))only[evB,xBRa,Nat.reduceAdd,Nat.reduceBEq, *];try rfl) (fun _=>⟨_,xERa,?_⟩) (fun h=>by cases h)
   refine wpH_call0 (elementsR (ch:=ch) (sz:=sz) (po:=po) (hl0.mono hx2) hll) ?_
   rintro v H3 ⟨hx3,rfl⟩
   (try simp only[ctlB])
   repeat' ((first|refine xSRa ?_|refine xORa rfl ?_);(try simp only[ctlB]))
   refine xRRa ?_
   exact⟨hx2.trans hx3,inF sz l,rfl,⟨fun h=>⟨⟨hf,ht2'.1 rfl⟩,h⟩,fun h=>h.2⟩⟩
theorem long{lo:Nat}{H:Heap}{ch sz po r b n:Int}:Ev cp lo 59 [cdI ch sz po r b,.int .i64 n] H (fun v H'=>Ext H H'∧v=.bool (decide (r<n)&&decide (n<sz))):=by
 unfold cdI
 refine st59 ?_;unfold bd59 cf59;simp only[kB,ctlB]
 repeat' ((first|refine xSRa ?_|refine xORa rfl ?_);(try simp only[ctlB]))
 refine xRRa ?_
 exact⟨Ext.app _ _,rfl⟩
theorem rValid{lo:Nat}{H:Heap}{ch sz po r b:Int}(hs2:sz≤9223372036854775807):Ev cp lo 64 [cdI ch sz po r b] H (fun v H'=>Ext H H'∧∃t,v=.bool t∧(t=true↔OkCd ch sz po r b)):=by
 unfold cdI
 refine st64 ?_;unfold bd64 cf64;simp only[kB,ctlB]
 repeat' ((first|refine xSRa ?_|refine xORa rfl ?_);(try simp only[ctlB]))
 refine xHRa ?_
 refine wpH_call0 (rvalid (ch:=ch) (sz:=sz) (po:=po) hs2) ?_
 rintro v H1 ⟨hx1,t1,rfl,ht1⟩
 have g0:H1.get H.length=some _:=hx1.get (xERa)
 have hx1:=hx1.of_app
 cases t1 with
 | false=>
  (try simp only[ctlB])
  repeat' ((first|refine xSRa ?_|refine xORa rfl ?_);(try simp only[ctlB]))
  refine xRRa ?_
  refine⟨hx1,false,rfl,?_⟩
  simp only[Bool.false_eq_true,false_iff]at ht1 ⊢
  exact fun h=>ht1 h.1
 | true=>
 have hbd:=okF_sz (ht1.1 rfl)
 generalize ht:true=t1 at ht1
 (try simp only[ctlB])
 repeat' ((first|refine xSRa ?_|refine xORa rfl ?_);(try simp only[ctlB]))
 refine xRRa ?_
 refine⟨hx1,_,rfl,?_⟩
 subst ht
 simp only[Bool.and_eq_true,decide_eq_true_eq,ht1.1 rfl,true_and,OkCd]
 constructor
 ·rintro⟨⟨⟨b,c⟩,d⟩,e⟩;exact⟨b,c,d,e⟩
 ·rintro⟨b,c,d,e⟩;exact⟨⟨⟨b,c⟩,d⟩,e⟩
theorem relements{lo:Nat}{H:Heap}{ch sz po:Int}{v:Value}{l:List Int}(hl:SlI H v l)(hll:l.length≤9223372036854775807):Ev cp lo 65 [fv ch sz po,v] H (fun v H'=>Ext H H'∧v=.bool (inF sz l)):=by
 have hl0:=hl
 obtain⟨ad,c,rfl⟩:=hl.len
 unfold fv
 refine st65 ?_;unfold bd65 cf65;simp only[kB,ctlB]
 repeat' ((first|refine xSRa ?_|refine xORa rfl ?_);(try simp only[ctlB]))
 generalize hG:H++_=G at *
 have g0:G.get H.length=some [.int .i64 ch,.int .i64 sz,.int .i64 po]:=by rw[←hG];exact get_app0
 have hxG:Ext H G:=by rw[←hG];exact Ext.app _ _
 clear hG
 refine aw_for (fun i S H'=>Ext G H'∧inF sz (l.take i)=true∧∃(z:Nat→Value),S=[z 0,.slice ad l.length c,.pointer (some ⟨H.length,0,none⟩),.bool false,.int .i64 (i:Nat),z 5]) l.length ?_ ?_ ?_ ?_
 ·exact⟨Ext.refl _,rfl,exZGc rfl⟩
 ·rintro i S H' hi ⟨hx,-,z,rfl⟩
  exact⟨_,xERa,by simp⟩
 ·rintro i S H1 hi ⟨hx,hin,z,rfl⟩
  obtain⟨b,o,sp,cap,xs,e,gx,hat,hxl⟩:=hl0.els 0 (by omega)
  cases e
  have gx:=(hxG.trans hx).get gx
  have g0:=hx.get g0
  have hati:=hat i hi
  have hs:=all_take_succ (p:=fun x=>!(decide (x<0) || decide (sz≤x))) hi
  clear hat
  (try simp only[ctlB])
  refine xHRa ?_
  refine wpH_call0 (ris (ch:=ch) (sz:=sz) (po:=po) (x:=l.getD i 0)) ?_
  rintro v H2 ⟨hx2,rfl⟩
  have hx2:=hx.trans hx2
  have hneg:(!(decide (l.getD i 0<0) || decide (sz≤l.getD i 0)))=(decide (0≤l.getD i 0)&&decide (l.getD i 0<sz)):=by
   rw[Bool.eq_iff_iff];simp
  rw[hneg]at hs
  clear hneg
  (try simp only[ctlB])
  refine xCRa (fun h=>?_) (fun h=>?_)
  ·have hno:inF sz l=false:=by
    rw[Bool.eq_false_iff]
    intro hin2
    have:=inF_iff.1 hin2 (l.getD i 0) (by rw[List.getD_eq_getElem?_getD,List.getElem?_eq_getElem hi];exact List.getElem_mem hi)
    simp at h;simp at this;omega
   clear h hs
   (try simp only[ctlB])
   repeat' ((first|refine xSRa ?_|refine xORa rfl ?_);(try simp only[ctlB]))
   refine xRRa ?_
   exact⟨hxG.trans hx2,by rw[hno];rfl⟩
  ·have hin2:inF sz (l.take (i+1))=true:=by
    have h:(decide (0≤l.getD i 0)&&decide (l.getD i 0<sz))=true:=by simpa using h
    unfold inF at hin ⊢
    rw[hs,hin,h];rfl
   clear h hs
   (try simp only[ctlB])
   repeat' ((first|refine xSRa ?_|refine xORa rfl ?_);(try simp only[ctlB]))
   exact⟨hx2,hin2,exZGc (by first|rfl|(simp only[Int.natCast_add,Int.natCast_one];rfl)|simp only[Int.natCast_add,Int.natCast_one])⟩
 ·rintro S H1 ⟨hx,hin,z,rfl⟩
  rw[List.take_of_length_le (Nat.le_refl _)]at hin
  (try simp only[ctlB])
  repeat' ((first|refine xSRa ?_|refine xORa rfl ?_);(try simp only[ctlB]))
  refine xRRa ?_
  exact⟨hxG.trans hx,by rw[hin];rfl⟩
theorem to_el{f:FD}{l:List Int}(h:inF (f.q:Int) l=true):∃le:List (El f),l=le.map fun x=>(x.val:Int):=by
 induction l with
 | nil=>exact⟨[],rfl⟩
 | cons a l ih=>
  have h2:=inF_iff.1 h
  have ha:=h2 a (by simp)
  obtain⟨le,hle⟩:=ih (inF_iff.2 fun x hx=>h2 x (by simp[hx]))
  refine⟨⟨a.toNat,by omega⟩::le,?_⟩
  rw[hle]
  simp
  omega
end Go.Proofs.YtmnlgdpdgjbfgaaGreat
namespace Go.Proofs.YtmnlgdpdgjbfgaaGreat
open Go.Abs Go.RS
set_option linter.unusedSimpArgs false
set_option linter.unusedVariables false
set_option maxRecDepth 20000
section
variable {ch sz po r b:Int}{v:Value}{l:List Int}{lo:Nat}{H:Heap}
end
section
variable {f:FD}[OkC f]
theorem sli_sle{H:Heap}{v:Value}{l:List (El f)}(h:SlI H v (valI l)):SlE H v l:=by
 rcases h with ⟨h1,h2⟩|⟨b,o,sp,cap,xs,h1,h2,h3,h4⟩
 ·exact .inl ⟨h1,by simpa[valI]using h2⟩
 ·refine .inr ⟨b,o,sp,cap,xs,by rw[h1];simp[valI],h2,?_,by simpa[valI]using h4⟩
  simp only[valI,List.length_map,List.map_map]at h3
  exact h3
structure CdOK (f:FD)(r b:Nat):Prop where
 r1:1≤r
 r2:r≤f.q-2
 b2:b≤f.q-2
theorem okCd_of{r b:Nat}(h:CdOK f r b):OkCd (FD.ch f) f.q f.poly r b:=by
 have h2:=qle (f:=f)
 obtain⟨a,b,c⟩:=h
 exact⟨okF_self (OkC.ok (f:=f)),by omega,by omega,by omega,by omega⟩
set_option linter.defProp false in
def xBRb:=And.intro @Int.cast_ofNat_Int (And.intro @fv.eq_1 (And.intro @fvf.eq_1 (And.intro @ite_self.{1} (And.intro @ite_st (And.intro @ite_sf (And.intro @ite_nt (And.intro @cdC.eq_1 (And.intro @arC.eq_1 (And.intro @elL_at (And.intro @elL_len (And.intro @elL_set' @zerosEl)))))))))))
theorem xERb{P:Prop}(h:P:=by simp(disch:=first|omega|(simp only[lenB];omega))only[evB,xBRb,Nat.reduceAdd,Nat.reduceBEq, *];rfl):P:=h
theorem xSRb{cp:FuncId→Option CF}{lo:Nat}{l:List (Nat×E)}{chk:List E}{Q:Post}{S:List Value}{H:Heap}{vs:List (Nat×Value)}{S':List Value}(k:Q .normal S' H)(h:evSets S H l=some vs:=by exact xERb)(hc:evChk S H chk=true:=by simp(disch:=first|omega|(simp only[lenB];omega))only[evB,xBRb,Nat.reduceAdd,Nat.reduceBEq, *])(hS:setAll S vs=S':=by exact xERb):wpS cp lo (.sets l chk) Q S H:=aw_sets h hc hS k
theorem xHRb{cp:FuncId→Option CF}{lo:Nat}{l:List (Nat×E)}{chk:List E}{Q:Post}{S:List Value}{H:Heap}{vs:List (Nat×Value)}{dst:Option Nat}{o:HOp}{a:E}{xs:List Value}(k:wpH cp lo o xs H fun v H'=>Q .normal (setD (setAll S vs) dst v) H')(h:evSets S H l=some vs:=by exact xERb)(hc:evChk S H chk=true:=by simp(disch:=first|omega|(simp only[lenB];omega))only[evB,xBRb,Nat.reduceAdd,Nat.reduceBEq, *])(ha:ev S H a=some xs:=by exact xERb):wpS cp lo (.hv l chk [] dst o a) Q S H:=aw_hv h hc ha k
theorem xORb{cp:FuncId→Option CF}{lo:Nat}{l:List (Nat×E)}{chk:List E}{Q:Post}{S:List Value}{H:Heap}{vs:List (Nat×Value)}{dst:Option Nat}{o:HOp}{a:E}{xs:List Value}{S':List Value}{H':Heap}{v:Value}(hcall:o.isCall=false)(k:Q .normal S' H')(h:evSets S H l=some vs:=by exact xERb)(hc:evChk S H chk=true:=by simp(disch:=first|omega|(simp only[lenB];omega))only[evB,xBRb,Nat.reduceAdd,Nat.reduceBEq, *])(ha:ev S H a=some xs:=by exact xERb)(ho:hsem0 lo o xs H=some (v,H'):=by exact xERb)(hS:setD (setAll S vs) dst v=S':=by exact xERb):wpS cp lo (.hv l chk [] dst o a) Q S H:=aw_op hcall h hc ha ho hS k
theorem xCRb{cp:FuncId→Option CF}{lo:Nat}{c:E}{a b:Stm}{Q:Post}{S:List Value}{H:Heap}{t:Bool}(k1:t=true→wpS cp lo a Q S H)(k2:t=false→wpS cp lo b Q S H)(h:ev1 S H c=some (.bool t):=by exact xERb):wpS cp lo (.cond c a b) Q S H:=aw_cond h k1 k2
theorem xRRb{cf:CF}{R:Value→Heap→Prop}{S:List Value}{H:Heap}{vs:List Value}(k:R (resultOf vs) H)(h:evList S H cf.res=some vs:=by exact xERb):bodyQ cf R .ret S H:=body_ret h k
theorem genR_ok{lo:Nat}{H:Heap}{g:El f}{r b:Nat}(hlo:lo≤H.length)(hg:Gn (OkC.ok (f:=f)) g)(hc:CdOK f r b):Ev cp lo 60 [cdV f r b] H (fun v H'=>Ext H H'∧∃vs,v=.tuple #[vs,.int .i64 0]∧SlE H' vs (genL (fun i=>pw g (b+i)) r)):=by
 have h2:=qle (f:=f)
 have hok:=okCd_of hc
 obtain⟨c1,c2,c3⟩:=hc
 unfold cdV
 refine st60 ?_;unfold bd60 cf60;simp only[kB,ctlB]
 repeat' ((first|refine xSRb ?_|refine xORb rfl ?_);(try simp only[ctlB]))
 refine xHRb ?_
 refine wpH_call0 (rsvalid (ch:=FD.ch f) (sz:=f.q) (po:=f.poly) (r:=r) (b:=b) (l:=[]) (poly_bd (OkC.ok (f:=f))) (.inl ⟨rfl,rfl⟩) (by simp)) ?_
 rintro v H1 ⟨hx1,t,rfl,ht⟩
 have g0:H1.get H.length=some _:=hx1.get (xERb)
 have hx1:=hx1.of_app
 have htt:t=true:=ht.2 ⟨hok,rfl⟩
 subst htt
 have hl1:=hx1.1
 (try simp only[ctlB])
 refine xCRb (fun h=>?_) (fun h=>?_)
 ·cases h
 clear h
 (try simp only[ctlB])
 refine xHRb ?_
 refine wpH_call0 (newArithR (f:=f) (by omega) hg) ?_
 rintro v H2 ⟨hx2,be,bl,hbe,hbl,rfl,harith⟩
 have hbe2:=harith.lt
 have g0:=hx2.get g0
 have hx2:=hx1.trans hx2
 have hl2:=Heap.get_lt g0
 unfold arV
 (try simp only[ctlB])
 repeat' ((first|refine xSRb ?_|refine xORb rfl ?_);(try simp only[ctlB]))
 generalize hG:H2++_=G at *
 have g1:G.get H2.length=some (arC f be bl):=by rw[←hG];exact get_app0
 have g2:G.get (H2.length+1)=some (elL (tab r (fun _=>(0:El f)))):=by rw[←hG,get_appS,replicate_tab];rfl
 have g0:G.get H.length=some (cdC f r b):=by rw[←hG,get_app_lt (by omega)];exact g0
 have hxG:Ext H2 G:=by rw[←hG];exact Ext.app _ _
 have harith:=harith.mono hxG
 have hal:=harith.lt
 clear hG
 have hxG:=hx2.trans hxG
 generalize hp2:H2.length=p2 at *
 refine aw_for (fun i S H'=>Ext H H'∧H'.get H.length=some (cdC f r b)∧H'.get p2=some (arC f be bl)∧ArH H' g be bl∧H'.get (p2+1)=some (elL (tab r (fun k=>if k<i then pw g (b+k) else 0)))∧∃(z:Nat→Value),S=[z 0,.pointer (some ⟨H.length,0,none⟩),.slice none 0 0,.int .i64 0,.pointer (some ⟨p2,0,none⟩),.slice (some ⟨p2+1,0,none⟩) r r,z 6,z 7,z 8,z 9,.int .i64 (r:Nat),.int .i64 (i:Nat),z 12,z 13,z 14,z 15]) r ?_ ?_ ?_ ?_
 ·refine⟨hxG,g0,g1,harith,?_,exZGc rfl⟩
  rw[g2]
  refine congrArg (fun t=>some (elL t)) ?_
  exact tab_congr fun k _=>(if_neg (by omega)).symm
 ·rintro i S H' hi ⟨hx,f0,f1,fa,f2,z,rfl⟩
  exact⟨_,xERb,by simp⟩
 ·clear g0 g1 g2 hxG harith hal
  rintro i S H3 hi ⟨hx3,f0,f1,fa,f2,z,rfl⟩
  have hset:(tab r (fun k=>if k<i then pw g (b+k) else 0)).set i (pw g (b+i))=tab r (fun k=>if k<i+1 then pw g (b+k) else 0):=by
   rw[tab_set]
   refine tab_congr fun k hk=>?_
   by_cases e:k=i
   ·rw[if_pos e,if_pos (by omega),e]
   ·rw[if_neg e]
    by_cases h2:k<i
    ·rw[if_pos h2,if_pos (by omega)]
    ·rw[if_neg h2,if_neg (by omega)]
  have hlen2:(tab r (fun k=>if k<i then pw g (b+k) else 0)).length≤r∧r≤(tab r (fun k=>if k<i then pw g (b+k) else 0)).length:=by rw[tab_len];omega
  generalize tab r (fun k=>if k<i then pw g (b+k) else 0)=T at *
  have hbi:((b:Int)+(i:Int))=((b+i:Nat):Int):=by omega
  (try simp only[ctlB])
  repeat' ((first|refine xSRb ?_|refine xORb rfl ?_);(try simp only[ctlB]))
  refine xHRb ?_
  refine wpH_call0 (powerR hg fa (b+i) (by omega)) ?_
  rintro v H4 ⟨hx4,rfl⟩
  have f0:=(hx4).get f0;have f1:=(hx4).get f1;have f2:=(hx4).get f2
  have fa:=fa.mono hx4
  have hx4:=hx3.trans hx4
  have hl4:=Heap.get_lt f2
  clear hbi
  (try simp only[ctlB])
  repeat' ((first|refine xSRb ?_|refine xORb rfl ?_);(try simp only[ctlB]))
  exact⟨hx4.set (by omega),by simp(disch:=first|omega|(simp only[lenB];omega))only[evB,xBRb,Nat.reduceAdd,Nat.reduceBEq, *],by simp(disch:=first|omega|(simp only[lenB];omega))only[evB,xBRb,Nat.reduceAdd,Nat.reduceBEq, *],fa.keep ⟨by simp,fun i hi hne=>get_set_ne (fun e=>hne e.symm)⟩ (by omega) (by omega),by rw[get_set_self (by omega)],exZGc (by first|rfl|(simp only[Int.natCast_add,Int.natCast_one];rfl)|simp only[Int.natCast_add,Int.natCast_one])⟩
 ·rintro S H3 ⟨hx3,f0,f1,fa,f2,z,rfl⟩
  have hT:tab r (fun k=>if k<r then pw g (b+k) else 0)=tab r (fun k=>pw g (b+k)):=tab_congr fun k hk=>if_pos hk
  rw[hT]at f2
  have hl3:=hx3.1
  have hrl:=tab_len r (fun k=>pw g (b+k))
  (try simp only[ctlB])
  refine xHRb ?_
  refine wpH_call0 (fromRootsP (by omega) hg (sle_whole (sp:=none) f2 hrl) (by rw[hrl];omega)) ?_
  rintro v H4 ⟨hx4,vp,rfl,f4⟩
  rw[hrl]at f4
  have hgp:genL (co (tab r (fun k=>pw g (b+k)))) r=genL (fun i=>pw g (b+i)) r:=by
   unfold genL
   rw[gp_congr (fun i hi=>by rw[co_tab,if_pos hi])]
  rw[hgp]at f4
  (try simp only[ctlB])
  repeat' ((first|refine xSRb ?_|refine xORb rfl ?_);(try simp only[ctlB]))
  refine xRRb ?_
  exact⟨hx3.trans hx4,_,rfl,f4⟩
end
end Go.Proofs.YtmnlgdpdgjbfgaaGreat
namespace Go.Proofs.YtmnlgdpdgjbfgaaGreat
open Go.Abs Go.RS
set_option linter.unusedSimpArgs false
set_option linter.unusedVariables false
set_option maxRecDepth 20000
section
variable {f:FD}[OkC f]
structure IsEnc (g:El f)(r b:Nat)(d w:List (El f)):Prop where
 len:w.length=d.length+r
 dat:∀i,i<d.length→co w i=co d i
 cw:IsCw (fun i=>pw g (b+i)) r w
theorem rt_inj{g:El f}(hg:Gn (OkC.ok (f:=f)) g){r b:Nat}(hc:CdOK f r b):∀i j,i<r→j<r→pw g (b+i)=pw g (b+j)→i=j:=by
 intro i j hi hj e
 have h2:=qle (f:=f)
 rw[pw_add,pw_add]at e
 have e2:=mul_left_cancel (pw_ne_zero (gn_ne hg) b) e
 exact pw_inj (gn_ne hg) (gn_ord hg) i j (by have:=hc.r2;omega) (by have:=hc.r2;omega) e2
theorem enc_uniq{g:El f}(hg:Gn (OkC.ok (f:=f)) g){r b:Nat}(hc:CdOK f r b){d w w':List (El f)}(h:IsEnc g r b d w)(h':IsEnc g r b d w'):w=w':=by
 have hl:=h.len
 have hl':=h'.len
 refine cw_uniq hc.r1 (rt_inj hg hc) (fun i _=>pw_ne_zero (gn_ne hg) _) h.cw h'.cw (by omega) (by omega) (fun i hi=>?_)
 rw[h.dat i (by omega),h'.dat i (by omega)]
theorem trim_le{R:List (El f)}{r:Nat}(h:∀k,r≤k→co R k=0):(trim R).length≤r:=by
 apply Decidable.byContradiction
 intro hc
 have hne:trim R≠[]:=by intro e;rw[e]at hc;simp at hc
 exact trim_top R hne (h _ (by omega))
set_option maxHeartbeats 4000000 in
theorem encR_okN{lo:Nat}{H:Heap}{g:El f}{v:Value}{d:List (El f)}{r b:Nat}(hlo:lo≤H.length)(hg:Gn (OkC.ok (f:=f)) g)(hc:CdOK f r b)(hd:SlE H v d)(hdl:d.length≤10000000) :
  Ev cp lo 29 [cdV f r b,v] H (fun v H'=>Ext H H'∧((0<d.length∧d.length+r<f.q∧∃vs w,v=.tuple #[vs,.int .i64 0]∧SlE H' vs w∧NewV H.length vs∧IsEnc g r b d w)∨(¬ (0<d.length∧d.length+r<f.q)∧v=.tuple #[.slice none 0 0,.int .i64 7]))):=by
 have h2:=qle (f:=f)
 have hd0:=hd
 have hok:=okCd_of hc
 have hc0:=hc
 obtain⟨c1,c2,c3⟩:=hc
 obtain⟨ad,cd,rfl⟩:=hd.len
 have hnr:((d.length:Int)+(r:Int))=((d.length+r:Nat):Int):=by omega
 unfold cdV
 refine st29 ?_;unfold bd29 cf29;simp only[kB,ctlB]
 repeat' ((first|refine xSRb ?_|refine xORb rfl ?_);(try simp only[ctlB]))
 refine xHRb ?_
 refine wpH_call0 (rsvalid (ch:=FD.ch f) (sz:=f.q) (po:=f.poly) (r:=r) (b:=b) (poly_bd (OkC.ok (f:=f))) (sle_sli (hd0.mono (Ext.app _ _))) (by rw[valI_len];omega)) ?_
 rintro v H1 ⟨hx1,t,rfl,ht⟩
 have g0:H1.get H.length=some _:=hx1.get (xERb)
 have hx1:=hx1.of_app
 have htt:t=true:=ht.2 ⟨hok,inF_valI d⟩
 subst htt
 (try simp only[ctlB])
 refine xCRb (fun h=>?_) (fun h=>?_)
 ·cases h
 clear h
 (try simp only[ctlB])
 by_cases hd1:0<d.length
 rotate_left
 ·have hdz:(d.length:Int)=0:=by omega
  refine aw_hv_if (t:=false) (xERb) (by simp(disch:=first|omega|(simp only[lenB];omega))only[evB,xBRb,Nat.reduceAdd,Nat.reduceBEq, *]) (by simp(disch:=first|omega|(simp only[lenB];omega))only[evB,xBRb,Nat.reduceAdd,Nat.reduceBEq, *];try rfl) (fun h=>by cases h) (fun _=>?_)
  (try simp only[ctlB])
  refine xCRb (fun h=>?_) (fun h=>?_)
  ·clear h
   (try simp only[ctlB])
   repeat' ((first|refine xSRb ?_|refine xORb rfl ?_);(try simp only[ctlB]))
   refine xRRb ?_
   exact⟨hx1,.inr ⟨by omega,rfl⟩⟩
  ·cases h
 have hdz:¬ (d.length:Int)=0:=by omega
 refine aw_hv_if (t:=true) (xERb) (by simp(disch:=first|omega|(simp only[lenB];omega))only[evB,xBRb,Nat.reduceAdd,Nat.reduceBEq, *]) (by simp(disch:=first|omega|(simp only[lenB];omega))only[evB,xBRb,Nat.reduceAdd,Nat.reduceBEq, *];try rfl) (fun _=>⟨_,xERb,?_⟩) (fun h=>by cases h)
 refine wpH_call0 (long (ch:=FD.ch f) (sz:=f.q) (po:=f.poly) (r:=r) (b:=b) (n:=((d.length+r:Nat):Int))) ?_
 rintro v H2 ⟨hx2,rfl⟩
 have g0:=hx2.get g0
 have hx2:=hx1.trans hx2
 have hl2:=Heap.get_lt g0
 by_cases hlen:d.length+r<f.q
 rotate_left
 ·(try simp only[ctlB])
  refine xCRb (fun h=>?_) (fun h=>?_)
  ·clear h
   (try simp only[ctlB])
   repeat' ((first|refine xSRb ?_|refine xORb rfl ?_);(try simp only[ctlB]))
   refine xRRb ?_
   exact⟨hx2,.inr ⟨by omega,rfl⟩⟩
  ·exfalso;simp at h;omega
 (try simp only[ctlB])
 refine xCRb (fun h=>?_) (fun h=>?_)
 ·exfalso;simp at h;omega
 clear h
 (try simp only[ctlB])
 refine xHRb ?_
 refine wpH_call0 (genR_ok (f:=f) (by omega) hg hc0) ?_
 rintro v H3 ⟨hx3,vg,rfl,hgen⟩
 have g0:=hx3.get g0
 have hx3:=hx2.trans hx3
 have hl3:=Heap.get_lt g0
 have hgl:=genL_len (fun i=>pw g (b+i)) r
 generalize hn:d.length+r=n at *
 (try simp only[ctlB])
 repeat' ((first|refine xSRb ?_|refine xORb rfl ?_);(try simp only[ctlB]))
 refine xCRb (fun h=>?_) (fun h=>?_)
 ·simp at h
 clear h
 (try simp only[ctlB])
 repeat' ((first|refine xSRb ?_|refine xORb rfl ?_);(try simp only[ctlB]))
 have hg0:H3.get H.length=some (cdC f r b):=g0
 clear g0
 generalize hG:H3++_=G at *
 have g1:G.get H3.length=some (elL (tab n (fun _=>(0:El f)))):=by rw[←hG,get_app0,replicate_tab]
 have hxG:Ext H3 G:=by rw[←hG];exact Ext.app _ _
 clear hG
 refine aw_for (fun i S H'=>Ext H3 H'∧H'.get H3.length=some (elL (tab n (fun k=>if n-i≤k then co d (n-1-k) else 0)))∧∃(z:Nat→Value),S=[z 0,.slice ad d.length cd,.pointer (some ⟨H.length,0,none⟩),.slice none 0 0,.int .i64 0,vg,z 6,.int .i64 (n:Nat),.slice (some ⟨H3.length,0,none⟩) n n,z 9,z 10,z 11,z 12,z 13,z 14,z 15,z 16,z 17,z 18,z 19,.slice ad d.length cd,.int .i64 (d.length:Nat),.int .i64 (i:Nat),z 23,z 24,z 25,z 26,z 27,z 28,z 29,z 30,z 31,z 32,z 33,z 34]) d.length ?_ ?_ ?_ ?_
 ·refine⟨hxG,?_,exZGc rfl⟩
  rw[g1]
  refine congrArg (fun t=>some (elL t)) ?_
  exact tab_congr fun k _=>(if_neg (by omega)).symm
 ·rintro i S H' hi ⟨hx,f1,z,rfl⟩
  exact⟨_,xERb,by simp⟩
 ·clear g1 hxG
  rintro i S H4 hi ⟨hx4,f1,z,rfl⟩
  obtain⟨bd,od,sp,cap,xs,e,gx,hat,hxl⟩:=sle_at hd0 hd1
  cases e
  have gx:=(hx3.trans hx4).get gx
  have hati:=hat i hi
  have hidx:((n:Int)-1-(i:Int))=((n-1-i:Nat):Int):=by omega
  have hset:(tab n (fun k=>if n-i≤k then co d (n-1-k) else 0)).set (n-1-i) (co d i)=tab n (fun k=>if n-(i+1)≤k then co d (n-1-k) else 0):=by
   rw[tab_set]
   refine tab_congr fun k hk=>?_
   by_cases e:k=n-1-i
   ·rw[if_pos e,if_pos (by omega),e,show n-1-(n-1-i)=i by omega]
   ·rw[if_neg e]
    by_cases h2:n-i≤k
    ·rw[if_pos h2,if_pos (by omega)]
    ·rw[if_neg h2,if_neg (by omega)]
  have hlen2:(tab n (fun k=>if n-i≤k then co d (n-1-k) else 0)).length≤n∧n≤(tab n (fun k=>if n-i≤k then co d (n-1-k) else 0)).length:=by rw[tab_len];omega
  generalize tab n (fun k=>if n-i≤k then co d (n-1-k) else 0)=T at *
  have hl4:=Heap.get_lt f1
  clear hat
  (try simp only[ctlB])
  repeat' ((first|refine xSRb ?_|refine xORb rfl ?_);(try simp only[ctlB]))
  exact⟨hx4.set (Nat.le_refl _),by rw[get_set_self (by omega)],exZGc (by first|rfl|(simp only[Int.natCast_add,Int.natCast_one];rfl)|simp only[Int.natCast_add,Int.natCast_one])⟩
 clear g1 hxG
 rintro S H4 ⟨hx4,f1,z,rfl⟩
 have hST:tab n (fun k=>if n-d.length≤k then co d (n-1-k) else 0)=tab n (fun k=>if r≤k∧k<n then co d (n-1-k) else 0):=by
  refine tab_congr fun k hk=>?_
  by_cases h:r≤k
  ·rw[if_pos (by omega),if_pos ⟨h,hk⟩]
  ·rw[if_neg (by omega),if_neg (by omega)]
 rw[hST]at f1
 clear hST
 have hcoS:∀k,co (tab n (fun k=>if r≤k∧k<n then co d (n-1-k) else 0)) k=if r≤k∧k<n then co d (n-1-k) else 0:=by
  intro k
  rw[co_tab]
  split
  ·rfl
  ·rw[if_neg (by omega)]
 have hSl:=tab_len n (fun k=>if r≤k∧k<n then co d (n-1-k) else 0)
 generalize tab n (fun k=>if r≤k∧k<n then co d (n-1-k) else 0)=S0 at *
 have hg4:=hx4.get hg0
 have hl4:=(hx3.trans hx4).1
 unfold cdC at hg4
 (try simp only[ctlB])
 refine xHRb ?_
 refine wpH_call1 (trimP (Nat.le_refl _) (sle_whole (sp:=none) f1 hSl) (by omega)) ?_
 rintro v H5 ⟨hx5,hs5⟩
 have hg5:=hx5.get hg4
 have hx5:=hx4.trans hx5
 have hl5:=(hx3.trans hx5).1
 have htl:=trim_len_le S0
 clear hg4
 (try simp only[ctlB])
 refine xHRb ?_
 refine wpH_call0 (divModP (by omega) hg hs5 (hgen.mono hx5) ⟨by omega,?_⟩ ⟨by rw[hgl];omega,.inr ?_⟩ (by rw[hgl];omega)) ?_
 ·by_cases e:trim S0=[]
  ·left;rw[e];rfl
  ·right;rw[co_trim];exact trim_top S0 e
 ·rw[hgl,co_genL,Nat.add_sub_cancel,gp_top];exact one_ne
 rintro v H6 ⟨hx6,vt,vr,R,Q,rfl,hsR,hdiv⟩
 rw[hgl,Nat.add_sub_cancel]at hdiv
 have hg6:=hx6.get hg5
 have hx6:=hx5.trans hx6
 have hl6:=(hx3.trans hx6).1
 have hRl:=trim_le hdiv.top
 have hsR0:=hsR
 obtain⟨aR,cR,rfl⟩:=hsR.len
 clear hg5
 (try simp only[ctlB])
 repeat' ((first|refine xSRb ?_|refine xORb rfl ?_);(try simp only[ctlB]))
 refine xCRb (fun h=>?_) (fun h=>?_)
 ·simp at h
 clear h
 (try simp only[ctlB])
 repeat' ((first|refine xSRb ?_|refine xORb rfl ?_);(try simp only[ctlB]))
 generalize hG:H6++_=G at *
 have g1:G.get H6.length=some (elL (List.replicate n (0:El f))):=by rw[←hG,get_app0]
 have hxG:Ext H6 G:=by rw[←hG];exact Ext.app _ _
 clear hG
 have hl7:=Heap.get_lt g1
 refine xHRb ?_
 refine wpH_cpy (by omega) g1 (by simp) (hd0.mono (hx3.trans (hx6.trans hxG))) (by simp;omega) ?_
 intro w0
 rw[app_drop_co d (by omega)]
 generalize hG2:G.set H6.length _=G2
 have g1:Heap.get G2 H6.length=some (elL (tab n (co d))):=by rw[←hG2,get_set_self (by omega)]
 have hxG:Ext H6 G2:=by rw[←hG2];exact hxG.set (Nat.le_refl _)
 clear hG2 hl7
 (try simp only[ctlB])
 repeat' ((first|refine xSRb ?_|refine xORb rfl ?_);(try simp only[ctlB]))
 refine aw_for (fun i S H'=>Ext H6 H'∧H'.get H6.length=some (elL (tab n (fun k=>if n-i≤k then-co R (n-1-k) else co d k)))∧∃(z:Nat→Value),S=[z 0,z 1,.pointer (some ⟨H.length,0,none⟩),.slice none 0 0,.int .i64 0,z 5,z 6,.int .i64 (n:Nat),z 8,z 9,z 10,z 11,.slice (some ⟨H6.length,0,none⟩) n n,z 13,z 14,z 15,z 16,z 17,z 18,z 19,z 20,z 21,z 22,z 23,z 24,z 25,z 26,z 27,.slice aR (trim R).length cR,.int .i64 ((trim R).length:Nat),.int .i64 (i:Nat),z 31,z 32,z 33,z 34]) (trim R).length ?_ ?_ ?_ ?_
 ·refine⟨hxG,?_,exZGc rfl⟩
  rw[g1]
  refine congrArg (fun t=>some (elL t)) ?_
  exact tab_congr fun k hk=>(if_neg (by omega)).symm
 ·rintro i S H' hi ⟨hx,f1,z,rfl⟩
  exact⟨_,xERb,by simp⟩
 ·clear g1 hxG
  rintro i S H7 hi ⟨hx7,f1,z,rfl⟩
  obtain⟨bd,od,sp,cap,xs,e,gx,hat,hxl⟩:=sle_at hsR0 (by omega)
  cases e
  have gx:=hx7.get gx
  have hati:=hat i hi
  rw[co_trim]at hati
  have hg7:=hx7.get hg6
  have hidx:((n:Int)-1-(i:Int))=((n-1-i:Nat):Int):=by omega
  have hset:(tab n (fun k=>if n-i≤k then-co R (n-1-k) else co d k)).set (n-1-i) (- co R i)=tab n (fun k=>if n-(i+1)≤k then-co R (n-1-k) else co d k):=by
   rw[tab_set]
   refine tab_congr fun k hk=>?_
   by_cases e:k=n-1-i
   ·rw[if_pos e,if_pos (by omega),e,show n-1-(n-1-i)=i by omega]
   ·rw[if_neg e]
    by_cases h2:n-i≤k
    ·rw[if_pos h2,if_pos (by omega)]
    ·rw[if_neg h2,if_neg (by omega)]
  have hlen2:(tab n (fun k=>if n-i≤k then-co R (n-1-k) else co d k)).length≤n∧n≤(tab n (fun k=>if n-i≤k then-co R (n-1-k) else co d k)).length:=by rw[tab_len];omega
  generalize tab n (fun k=>if n-i≤k then-co R (n-1-k) else co d k)=T at *
  have hneg:fsub f 0 (co R i).val=(- co R i).val:=by
   rw[fsub_eq (OkC.ok (f:=f)) (by omega) (co R i).lt]
   show((0:El f)+- co R i).val=_
   rw[zero_add]
  clear hat
  (try simp only[ctlB])
  repeat' ((first|refine xSRb ?_|refine xORb rfl ?_);(try simp only[ctlB]))
  refine xHRb ?_
  refine wpH_call0 (bigSub (f:=f) (OkC.ok (f:=f)) (a:=0) (b:=(co R i).val) (by omega) (co R i).lt) ?_
  rintro v H8 ⟨hx8,rfl⟩
  rw[hneg]
  have f1:=hx8.get f1
  have hx8:=hx7.trans hx8
  have hl8:=Heap.get_lt f1
  clear hneg
  (try simp only[ctlB])
  repeat' ((first|refine xSRb ?_|refine xORb rfl ?_);(try simp only[ctlB]))
  refine xCRb (fun h=>?_) (fun h=>?_)
  ·simp at h
  clear h
  (try simp only[ctlB])
  repeat' ((first|refine xSRb ?_|refine xORb rfl ?_);(try simp only[ctlB]))
  exact⟨hx8.set (Nat.le_refl _),by rw[get_set_self (by omega)],exZGc (by first|rfl|(simp only[Int.natCast_add,Int.natCast_one];rfl)|simp only[Int.natCast_add,Int.natCast_one])⟩
 ·rintro S H7 ⟨hx7,f1,z,rfl⟩
  (try simp only[ctlB])
  repeat' ((first|refine xSRb ?_|refine xORb rfl ?_);(try simp only[ctlB]))
  refine xRRb ?_
  refine⟨hx3.trans (hx6.trans hx7),.inl ⟨hd1,hlen,_,_,rfl,sle_whole f1 (tab_len _ _),NewV.mk (by omega),?_⟩⟩
  have hw:tab n (fun k=>if n-(trim R).length≤k then-co R (n-1-k) else co d k)=tab n (fun k=>if k<d.length then co d k else-co R (n-1-k)):=by
   refine tab_congr fun k hk=>?_
   by_cases h1:k<d.length
   ·rw[if_pos h1,if_neg (by omega)]
   ·rw[if_neg h1]
    by_cases h3:n-(trim R).length≤k
    ·rw[if_pos h3]
    ·rw[if_neg h3,co_ge (l:=d) (by omega),←co_trim R,co_ge (l:=trim R) (by omega),neg_zero]
  rw[hw]
  refine⟨by rw[tab_len];omega,fun i hi=>by rw[co_tab,if_pos (by omega),if_pos hi],?_⟩
  refine div_end (n:=n) (data:=d) (S:=S0) (R:=R) (Q:=Q) (N:=(trim S0).length) (by omega) hcoS (fun k=>?_) hdiv.top hdiv.qz (tab_len _ _) (fun i hi=>by rw[co_tab,if_pos (by omega),if_pos hi]) (fun k hk=>?_)
  ·rw[←co_trim S0,hdiv.eq k,co_genL]
  ·rw[co_tab,if_pos (by omega),if_neg (by omega),show n-1-(n-1-k)=k by omega]
end
end Go.Proofs.YtmnlgdpdgjbfgaaGreat
namespace Go.Proofs.YtmnlgdpdgjbfgaaGreat
open Go.Abs Go.RS
set_option linter.unusedSimpArgs false
set_option linter.unusedVariables false
set_option maxRecDepth 20000
section
variable {f:FD}[OkC f]
set_option maxHeartbeats 4000000 in
theorem encV_okN{lo:Nat}{H:Heap}{g:El f}{v:Value}{d:List (El f)}{r b:Nat}(hlo:lo≤H.length)(hg:Gn (OkC.ok (f:=f)) g)(hc:CdOK f r b)(hd:SlE H v d)(hdl:d.length≤10000000) :
  Ev cp lo 33 [cdV f r b,v] H (fun v H'=>Ext H H'∧((0<d.length∧d.length+r<f.q∧∃vs w,v=.tuple #[vs,.int .i64 0]∧SlE H' vs w∧NewV H.length vs∧IsEnc g r b d w)∨(¬ (0<d.length∧d.length+r<f.q)∧v=.tuple #[.slice none 0 0,.int .i64 7]))):=by
 have h2:=qle (f:=f)
 have hd0:=hd
 have hok:=okCd_of hc
 have hc0:=hc
 obtain⟨c1,c2,c3⟩:=hc
 have hcopy:∀(G:Heap) (R:Value→Heap→Prop) (z:List Value),Ext H G→(∀v' H',Own lo 1 H' v' G.length (elL d)→Ext G H'→R v' H')→wpH cp lo (.app 1 z) [.slice none 0 0,v] G R:=by
  intro G R z hG k
  rcases hd with ⟨rfl,rfl⟩|⟨b,o,sp,cap,xs,rfl,hb,hx,hxl,_⟩
  ·exact wpH_app_zn (k _ _ (Own.nil (Nat.le_trans hlo hG.1)) (Ext.refl _))
  ·exact wpH_copy (Nat.le_trans hlo hG.1) (hG.get hb) hxl hx (by omega) k
 obtain⟨ad,cd,rfl⟩:=hd0.len
 unfold cdV
 refine st33 ?_;unfold bd33 cf33;simp only[kB,ctlB]
 repeat' ((first|refine xSRb ?_|refine xORb rfl ?_);(try simp only[ctlB]))
 refine xHRb ?_
 refine wpH_call0 (rValid (ch:=FD.ch f) (sz:=f.q) (po:=f.poly) (r:=r) (b:=b) (by omega)) ?_
 rintro v H1 ⟨hx1,t,rfl,ht⟩
 have g0:H1.get H.length=some _:=hx1.get (xERb)
 have hx1:=hx1.of_app
 have htt:t=true:=ht.2 hok
 subst htt
 (try simp only[ctlB])
 refine aw_hv_if (t:=true) (xERb) (by simp(disch:=first|omega|(simp only[lenB];omega))only[evB,xBRb,Nat.reduceAdd,Nat.reduceBEq, *]) (by simp(disch:=first|omega|(simp only[lenB];omega))only[evB,xBRb,Nat.reduceAdd,Nat.reduceBEq, *];try rfl) (fun _=>⟨_,xERb,?_⟩) (fun h=>by cases h)
 refine wpH_call0 (relements (ch:=FD.ch f) (sz:=f.q) (po:=f.poly) (sle_sli (hd0.mono hx1)) (by rw[valI_len];omega)) ?_
 rintro v H2 ⟨hx2,rfl⟩
 rw[inF_valI]
 have g0:=hx2.get g0
 have hx2:=hx1.trans hx2
 have hl2:=Heap.get_lt g0
 (try simp only[ctlB])
 refine xCRb (fun h=>?_) (fun h=>?_)
 ·cases h
 clear h
 by_cases hlen:0<d.length∧d.length+r<f.q
 rotate_left
 ·(try simp only[ctlB])
  refine xCRb (fun h=>?_) (fun h=>?_)
  ·clear h
   (try simp only[ctlB])
   repeat' ((first|refine xSRb ?_|refine xORb rfl ?_);(try simp only[ctlB]))
   refine xRRb ?_
   exact⟨hx2,.inr ⟨hlen,rfl⟩⟩
  ·exfalso;simp at h;omega
 (try simp only[ctlB])
 refine xCRb (fun h=>?_) (fun h=>?_)
 ·exfalso;simp at h;omega
 clear h
 (try simp only[ctlB])
 refine xHRb ?_
 refine wpH_call0 (generatorV (by omega) hg r b (by omega) (by omega)) ?_
 rintro v H3 ⟨hx3,hgen⟩
 have g0:=hx3.get g0
 have hx3:=hx2.trans hx3
 have hl3:=Heap.get_lt g0
 have hgl:=genL_len (fun i=>pw g (b+i)) r
 obtain⟨bg,og,sg,capg,xg,eg,gg,hag,hxg⟩:=sle_at hgen (by rw[hgl];omega)
 subst eg
 rw[hgl]at *
 simp only[co_genL]at hag
 (try simp only[ctlB])
 repeat' ((first|refine xSRb ?_|refine xORb rfl ?_);(try simp only[ctlB]))
 refine xHRb ?_
 refine hcopy H3 _ _ hx3 ?_
 intro v6 H4 hown hx4
 clear hcopy
 have hx4':=hx4
 have g03:=g0
 have gg:=hx4.get gg
 have g0:=hx4.get g0
 have hx4:=hx3.trans hx4
 have hl4:=hx4.1
 have hl34:=Heap.get_lt gg
 (try simp only[ctlB])
 repeat' ((first|refine xSRb ?_|refine xORb rfl ?_);(try simp only[ctlB]))
 generalize hG:H4++_=G at *
 have g1:G.get H4.length=some (elL (tab r (fun _=>(0:El f)))):=by rw[←hG,get_app0,replicate_tab]
 have hxG:Ext H4 G:=by rw[←hG];exact Ext.app _ _
 clear hG
 have hown:=hown
 have hbo:H3.length<H4.length∨d.length=0:=by
  obtain⟨_,⟨_,e⟩|⟨n,_,_,_,hg⟩⟩:=hown
  ·right
   have:=congrArg List.length e
   rw[elL_len]at this;simpa using this
  ·left;exact Heap.get_lt hg
 refine aw_for (fun i S H'=>Ext H4 H'∧∃rest:List (El f),H'.get H4.length=some (elL rest)∧rest.length=r∧(∀k,k<r→hval rest (pw g (b+k))=pw (pw g (b+k)) r*hval (d.take i) (pw g (b+k)))∧∃(z:Nat→Value),S=[z 0,.slice ad d.length cd,.pointer (some ⟨H.length,0,none⟩),.slice none 0 0,.int .i64 0,.slice (some ⟨bg,og,sg⟩) (r+1) capg,v6,.slice (some ⟨H4.length,0,none⟩) r r,.int .i64 (i:Nat),z 9,z 10,z 11,z 12,z 13,z 14,z 15,z 16,z 17,z 18,z 19,z 20,z 21,z 22,z 23,z 24,z 25,z 26,z 27,z 28,z 29]) d.length ?_ ?_ ?_ ?_
 ·refine⟨hxG,_,g1,tab_len _ _,fun k hk=>?_,exZGc rfl⟩
  rw[hval_sm,tab_len,sm_zero (fun j hj=>by rw[co_tab,if_pos hj,zero_mul])]
  show 0=_*0
  rw[mul_zero]
 ·rintro i S H' hi ⟨hx,rest,f1,hrl,hinv,z,rfl⟩
  exact⟨_,xERb,by simp⟩
 ·clear g1 hxG
  rintro i S H5 hi ⟨hx5,rest,f1,hrl,hinv,z,rfl⟩
  obtain⟨bd,od,sp,cap,xs,e,gx,hat,hxl⟩:=sle_at hd0 hlen.1
  cases e
  have gx:=(hx4.trans hx5).get gx
  have f0:=hx5.get g0
  have hati:=hat i hi
  have hrl2:rest.length≤r∧r≤rest.length:=by omega
  have hr0:rest.getD 0 0=co rest 0:=rfl
  have hl5:=(hx4.trans hx5).1
  clear hat
  (try simp only[ctlB])
  refine xHRb ?_
  refine wpH_call0 (rplus (co d i) (co rest 0)) ?_
  rintro v H6 ⟨hx6,rfl⟩
  have f1:=hx6.get f1
  have hx6:=hx5.trans hx6
  generalize hq:co d i+co rest 0=q at *
  clear f0 gx hati hr0
  (try simp only[ctlB])
  repeat' ((first|refine xSRb ?_|refine xORb rfl ?_);(try simp only[ctlB]))
  refine aw_for (fun k S H'=>Ext H4 H'∧H'.get H4.length=some (elL (tab r (fun j=>if j<k then co rest (j+1)-q*gp (fun i=>pw g (b+i)) r (r-1-j) else co rest j)))∧∃(z:Nat→Value),S=[z 0,.slice (some ⟨bd,od,sp⟩) d.length cd,.pointer (some ⟨H.length,0,none⟩),.slice none 0 0,.int .i64 0,.slice (some ⟨bg,og,sg⟩) (r+1) capg,v6,.slice (some ⟨H4.length,0,none⟩) r r,.int .i64 (i:Nat),.int .i64 (q.val:Nat),.int .i64 (k:Nat),z 11,z 12,z 13,z 14,z 15,z 16,z 17,z 18,z 19,z 20,z 21,z 22,z 23,z 24,z 25,z 26,z 27,z 28,z 29]) r ?_ ?_ ?_ ?_
  ·refine⟨hx6,?_,exZGc rfl⟩
   rw[f1]
   refine congrArg (fun t=>some (elL t)) ?_
   exact tab_eq hrl fun k _=>(if_neg (by omega)).symm
  ·rintro k S H' hk ⟨hx,f1,z,rfl⟩
   have f0:=hx.get g0
   exact⟨_,xERb,by simp⟩
  ·clear f1 hx6 hx5 hl5
   rintro k S H5 hk ⟨hx5,f1,z,rfl⟩
   have f0:=hx5.get g0
   have fg:=hx5.get gg
   have hagk:=hag (r-1-k) (by omega)
   have hget:k+1<r→(tab r (fun j=>if j<k then co rest (j+1)-q*gp (fun i=>pw g (b+i)) r (r-1-j) else co rest j)).getD (k+1) 0=co rest (k+1):=by
    intro h
    rw[tab_getD (by omega),if_neg (by omega)]
   have hset:(tab r (fun j=>if j<k then co rest (j+1)-q*gp (fun i=>pw g (b+i)) r (r-1-j) else co rest j)).set k (co rest (k+1)-q*gp (fun i=>pw g (b+i)) r (r-1-k))=tab r (fun j=>if j<k+1 then co rest (j+1)-q*gp (fun i=>pw g (b+i)) r (r-1-j) else co rest j):=by
    rw[tab_set]
    refine tab_congr fun j hj=>?_
    by_cases e:j=k
    ·rw[if_pos e,if_pos (by omega),e]
    ·rw[if_neg e]
     by_cases h3:j<k
     ·rw[if_pos h3,if_pos (by omega)]
     ·rw[if_neg h3,if_neg (by omega)]
   have hlen2:(tab r (fun j=>if j<k then co rest (j+1)-q*gp (fun i=>pw g (b+i)) r (r-1-j) else co rest j)).length≤r∧r≤(tab r (fun j=>if j<k then co rest (j+1)-q*gp (fun i=>pw g (b+i)) r (r-1-j) else co rest j)).length:=by rw[tab_len];omega
   generalize tab r (fun j=>if j<k then co rest (j+1)-q*gp (fun i=>pw g (b+i)) r (r-1-j) else co rest j)=T at *
   have hidx:((r:Int)-1-(k:Int))=((r-1-k:Nat):Int):=by omega
   have hk1:((k:Int)+1)=((k+1:Nat):Int):=by omega
   have hl5:=Heap.get_lt f1
   (try simp only[ctlB])
   repeat' ((first|refine xSRb ?_|refine xORb rfl ?_);(try simp only[ctlB]))
   refine aw_mid (fun S H'=>H5=H'∧∃z0 z12 z13 z14 z15 z16 z17 z18 z19 z20 z21 z22 z23 z24 z25 z26 z27 z28 z29,S=[z0,.slice (some ⟨bd,od,sp⟩) d.length cd,.pointer (some ⟨H.length,0,none⟩),.slice none 0 0,.int .i64 0,.slice (some ⟨bg,og,sg⟩) (r+1) capg,v6,.slice (some ⟨H4.length,0,none⟩) r r,.int .i64 (i:Nat),.int .i64 (q.val:Nat),.int .i64 (k:Nat),.int .i64 ((co rest (k+1)).val:Nat),z12,z13,z14,z15,z16,z17,z18,z19,z20,z21,z22,z23,z24,z25,z26,z27,z28,z29]) ?_ ?_
   ·refine xCRb (fun h=>?_) (fun h=>?_)
    ·have hkr:k+1<r:=by simp at h;omega
     clear h
     have hget:=hget hkr
     (try simp only[ctlB])
     repeat' ((first|refine xSRb ?_|refine xORb rfl ?_);(try simp only[ctlB]))
     exact⟨by trivial,_,_,_,_,_,_,_,_,_,_,_,_,_,_,_,_,_,_,_,rfl⟩
    ·have hkr:r≤k+1:=by simp at h;omega
     clear h
     (try simp only[ctlB])
     exact⟨by trivial,_,_,_,_,_,_,_,_,_,_,_,_,_,_,_,_,_,_,_,by rw[co_ge (l:=rest) (by omega)];rfl⟩
   rintro S H' ⟨rfl,z0,z12,z13,z14,z15,z16,z17,z18,z19,z20,z21,z22,z23,z24,z25,z26,z27,z28,z29,rfl⟩
   clear hget hk1
   (try simp only[ctlB])
   repeat' ((first|refine xSRb ?_|refine xORb rfl ?_);(try simp only[ctlB]))
   refine xHRb ?_
   refine wpH_call1 (rtimes q (gp (fun i=>pw g (b+i)) r (r-1-k))) ?_
   rintro v H6 ⟨hx6,rfl⟩
   have f1:=hx6.get f1
   have hx6:=hx5.trans hx6
   (try simp only[ctlB])
   refine xHRb ?_
   refine wpH_call0 (rminus (co rest (k+1)) (q*gp (fun i=>pw g (b+i)) r (r-1-k))) ?_
   rintro v H7 ⟨hx7,rfl⟩
   have f1:=hx7.get f1
   have hx7:=hx6.trans hx7
   have hl7:=Heap.get_lt f1
   clear hidx hagk
   (try simp only[ctlB])
   repeat' ((first|refine xSRb ?_|refine xORb rfl ?_);(try simp only[ctlB]))
   exact⟨hx7.set (Nat.le_refl _),by rw[get_set_self (by omega)],exZGc (by first|rfl|(simp only[Int.natCast_add,Int.natCast_one];rfl)|simp only[Int.natCast_add,Int.natCast_one])⟩
  ·clear f1 hx6 hx5 hl5
   rintro S H5 ⟨hx5,f1,z,rfl⟩
   have hTT:tab r (fun j=>if j<r then co rest (j+1)-q*gp (fun i=>pw g (b+i)) r (r-1-j) else co rest j)=tab r (fun j=>co rest (j+1)-q*gp (fun i=>pw g (b+i)) r (r-1-j)):=tab_congr fun j hj=>if_pos hj
   rw[hTT]at f1
   (try simp only[ctlB])
   repeat' ((first|refine xSRb ?_|refine xORb rfl ?_);(try simp only[ctlB]))
   refine⟨hx5,_,f1,tab_len _ _,fun k hk=>?_,exZGc (by first|rfl|(simp only[Int.natCast_add,Int.natCast_one];rfl)|simp only[Int.natCast_add,Int.natCast_one])⟩
   rw[lfsr_step (rt:=fun i=>pw g (b+i)) hk hrl (tab_len _ _) hq.symm (fun j hj=>by rw[co_tab,if_pos hj]),hinv k hk,hval_take_succ hi]
   exact(show((((pw (pw g (b+k)) r)*(hval (d.take i) (pw g (b+k))))*(pw g (b+k)))+((co d i)*(pw (pw g (b+k)) r)))=((pw (pw g (b+k)) r)*(((hval (d.take i) (pw g (b+k)))*(pw g (b+k)))+(co d i))) from ring_eq [(pw (pw g (b+k)) r),(hval (d.take i) (pw g (b+k))),(pw g (b+k)),(co d i)] (.add (.mul (.mul (.v 0) (.v 1)) (.v 2)) (.mul (.v 3) (.v 0))) (.mul (.v 0) (.add (.mul (.v 1) (.v 2)) (.v 3))) rfl)
 ·clear g1 hxG
  rintro S H5 ⟨hx5,rest,f1,hrl,hinv,z,rfl⟩
  rw[List.take_length]at hinv
  have hcw:=lfsr_end (rt:=fun i=>pw g (b+i)) (data:=d) hrl hinv
  have hown:=hown.mono hx5
  have hl5:=Heap.get_lt f1
  have hrl2:rest.length≤r∧r≤rest.length:=by omega
  have hbo:H3.length<H4.length:=by omega
  (try simp only[ctlB])
  repeat' ((first|refine xSRb ?_|refine xORb rfl ?_);(try simp only[ctlB]))
  refine aw_for (fun k S H'=>Ext H3 H'∧H'.get H4.length=some (elL rest)∧∃vo bo,H3.length≤bo∧bo≠H4.length∧Own lo 1 H' vo bo (elL (d++tab k (fun j=>- co rest j)))∧∃(z:Nat→Value),S=[z 0,z 1,.pointer (some ⟨H.length,0,none⟩),.slice none 0 0,.int .i64 0,z 5,vo,.slice (some ⟨H4.length,0,none⟩) r r,z 8,z 9,z 10,z 11,.int .i64 (k:Nat),z 13,z 14,z 15,z 16,z 17,z 18,z 19,z 20,z 21,z 22,z 23,z 24,z 25,z 26,z 27,z 28,z 29]) r ?_ ?_ ?_ ?_
  ·refine⟨hx4'.trans hx5,f1,v6,H3.length,Nat.le_refl _,by omega,?_,exZGc rfl⟩
   simpa[tab]using hown
  ·rintro k S H' hk ⟨hx,f1,vo,bo,hbo,hbo2,hown,z,rfl⟩
   have f0:=hx.get g03
   exact⟨_,xERb,by simp⟩
  ·clear f1 hx5 hown hl5
   rintro k S H5 hk ⟨hx5,f1,vo,bo,hbo',hbo2,hown,z,rfl⟩
   have f0:=hx5.get g03
   have hrk:rest.getD k 0=co rest k:=rfl
   have hl5:=(hx3.trans hx5).1
   have hlf:=Heap.get_lt f1
   (try simp only[ctlB])
   refine xHRb ?_
   refine wpH_call0 (rminus (0:El f) (co rest k)) ?_
   rintro v H6 ⟨hx6,rfl⟩
   rw[sub_zero_neg]
   have f1:=hx6.get f1
   have hown:=hown.mono hx6
   have hx6:=hx5.trans hx6
   have hl6:=(hx3.trans hx6).1
   have hlf6:=Heap.get_lt f1
   have hml:(d++tab k (fun j=>- co rest j)).length=d.length+k:=by rw[List.length_append,tab_len]
   clear hrk
   (try simp only[ctlB])
   repeat' ((first|refine xSRb ?_|refine xORb rfl ?_);(try simp only[ctlB]))
   refine xHRb ?_
   refine wpH_app (c:=[encK (- co rest k)]) (hown.mono (Ext.app _ _)) (by simp;omega) (by omega) (by omega) (by rw[elL_len,hml];omega) get_app0 (by simp) rfl rfl ?_
   rintro v' H7 hown7 hk7 hl7
   have hE:=Ext.app H6 [some [Value.int .i64 ((- co rest k).val:Nat)]]
   have hx7:=hk7.ext (hx6.trans hE) (by omega)
   have f1:=hk7.get (hE.get f1) (fun e=>hbo2 e.symm)
   simp only[List.length_append,List.length_cons,List.length_nil]at hown7
   clear hml
   (try simp only[ctlB])
   repeat' ((first|refine xSRb ?_|refine xORb rfl ?_);(try simp only[ctlB]))
   refine⟨hx7,f1,_,H6.length+(0+1),by have:=hx6.1;omega,by omega,?_,exZGc (by first|rfl|(simp only[Int.natCast_add,Int.natCast_one];rfl)|simp only[Int.natCast_add,Int.natCast_one])⟩
   rw[tab_succ,←List.append_assoc,elL_snoc]
   exact hown7
  ·rintro S H6 ⟨hx6,f1,vo,bo,hbo',hbo2,hown,z,rfl⟩
   (try simp only[ctlB])
   repeat' ((first|refine xSRb ?_|refine xORb rfl ?_);(try simp only[ctlB]))
   refine xRRb ?_
   refine⟨hx3.trans hx6,.inl ⟨hlen.1,hlen.2,_,_,rfl,Sl.ofOwn hown,NewV.own hown (Nat.le_trans hx3.1 hbo'),by rw[List.length_append,tab_len],fun i hi=>?_,hcw⟩⟩
   unfold co
   rw[List.getD_eq_getElem?_getD,List.getElem?_append_left hi,←List.getD_eq_getElem?_getD]
end
end Go.Proofs.YtmnlgdpdgjbfgaaGreat
