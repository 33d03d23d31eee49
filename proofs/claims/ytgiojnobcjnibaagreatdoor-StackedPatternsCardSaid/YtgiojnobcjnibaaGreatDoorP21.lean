/- Lemmas. -/
import Derived.Test.YtgiojnobcjnibaaGreatDoorP15
import Derived.Test.YtgiojnobcjnibaaGreatDoorP19
set_option linter.unusedVariables false
set_option linter.unusedSimpArgs false
set_option linter.unusedSectionVars false
namespace Go.Proofs.YtgiojnobcjnibaaGreatDoor
open Go.Abs
set_option maxRecDepth 20000
theorem xt3{lo:Nat}{H:Heap}{R:Value→Heap→Prop}{a0 a1 a2:Value}(h:wpS cpS lo bd3 (bodyQ cf3 R) [a0,a1,a2,undef,undef,undef,undef,undef,undef,undef,undef,undef,undef,undef,undef,undef,undef,undef,undef,undef,undef,undef] H):Ev cpS lo 3 [a0,a1,a2] H R:=ev_of_wp (cf:=cf3) rfl rfl rfl h
theorem valV_tup(l:List Int):∃a b e:Nat,valV l=tup3 a b e:=by
 unfold valV
 split
 ·exact⟨_,_,_,rfl⟩
 split
 ·exact⟨_,_,_,rfl⟩
 split
 ·exact⟨_,_,_,rfl⟩
 split
 ·exact⟨_,_,_,rfl⟩
 ·exact⟨_,_,_,rfl⟩
theorem xTLc{cp:FuncId→Option CF}{lo:Nat}{l:List (Nat×E)}{chk:List E}{Q:Post}{S:List Value}{H:Heap}{vs:List (Nat×Value)}{dst:Option Nat}{o:HOp}{a:E}{xs:List Value}{pc:PC}(k:wpH cp lo o xs H fun v H'=>Q .normal (setD (setAll S vs) dst v) H')(h:evSets S H l=some vs:=by exact xETd)(hc:evChk S H chk=true:=by simp(disch:=first|omega|(simp only[lenB];omega))only[evB,xBTd,Nat.reduceAdd,Nat.reduceMul,Nat.reduceBEq,Int.reduceToNat,Int.reduceEq,Int.reduceNe, *])(hp:holds S H pc=some true:=by simp(disch:=first|omega|(simp only[lenB];omega))only[evB,xBTd,Nat.reduceAdd,Nat.reduceMul,Nat.reduceBEq,Int.reduceToNat,Int.reduceEq,Int.reduceNe, *];try rfl)(ha:ev S H a=some xs:=by exact xETd):wpS cp lo (.hv l chk pc dst o a) Q S H:=aw_hvT h hc hp ha k
theorem lawPatP{H:Heap}{c v:Int}{w:Value}{l:List Int}(hw:SlI H w l):Ev cpS H.length 3 [.int .i64 c,.int .i64 v,w] H (fun r _=>r=.bool true):=by
 have hw0:=hw
 obtain⟨ad,c0,rfl⟩:=hw.len
 refine xt3 ?_;unfold bd3 cf3;simp only[kB,ctlB]
 repeat' ((first|refine xSTd ?_|refine xOTd rfl ?_);(try simp only[ctlB]))
 refine xCTd (fun h=>?_) (fun h=>?_)
 ·clear h
  (try simp only[ctlB])
  refine xHTd ?_
  refine wpH_call0 (aliveP (Nat.le_refl _)) ?_
  rintro r K ⟨hx,rfl⟩
  (try simp only[ctlB])
  repeat' ((first|refine xSTd ?_|refine xOTd rfl ?_);(try simp only[ctlB]))
  refine xRTd ?_
  rfl
 have h20:l.length≤20:=by simp at h;omega
 clear h
 (try simp only[ctlB])
 refine xHTd ?_
 refine wpH_call0 ((PatternP (Nat.le_refl _)).sub subS) ?_
 rintro r H1 ⟨hx1,hp1⟩
 obtain⟨s1,e1,rfl,hs1⟩:∃s e,r=.tuple #[s,.int .i64 e]∧(¬ Vd c v∧s=.slice none 0 0∧e=3∨Vd c v∧e=0∧SlI H1 s (pL c.toNat v.toNat)):=by
  rcases hp1 with ⟨h1,rfl⟩|⟨h1,s,rfl,h2⟩
  ·exact⟨_,_,rfl,.inl ⟨h1,rfl,rfl⟩⟩
  ·exact⟨_,_,rfl,.inr ⟨h1,rfl,h2⟩⟩
 clear hp1
 have hl1:=hx1.1
 (try simp only[ctlB])
 repeat' ((first|refine xSTd ?_|refine xOTd rfl ?_);(try simp only[ctlB]))
 refine xHTd ?_
 refine wpH_call0 ((RPatternP (by omega)).sub subS) ?_
 rintro r H2 ⟨hx2,hp2⟩
 obtain⟨s2,rfl,hse⟩:∃s,r=.tuple #[s,.int .i64 e1]∧∃L:List Int,L.length≤8∧SlI H2 s1 L∧SlI H2 s L:=by
  rcases hp2 with ⟨h1,rfl⟩|⟨h1,s,rfl,h2⟩
  ·obtain⟨-,rfl,rfl⟩:=hs1.resolve_right (fun q=>h1 q.1)
   exact⟨_,rfl,[],by simp,.inl ⟨rfl,rfl⟩,.inl ⟨rfl,rfl⟩⟩
  ·obtain⟨-,rfl,h3⟩:=hs1.resolve_left (fun q=>q.1 h1)
   exact⟨_,rfl,_,by rw[pL_len];exact Nat.le_refl _,h3.mono hx2,h2⟩
 obtain⟨L,hL8,hL1,hL2⟩:=hse
 clear hp2 hs1
 have hx12:=hx1.trans hx2
 have hl2:=hx12.1
 obtain⟨a,b,e,hV⟩:=valV_tup l
 (try simp only[ctlB])
 repeat' ((first|refine xSTd ?_|refine xOTd rfl ?_);(try simp only[ctlB]))
 refine xHTd ?_
 refine wpH_call0 ((ValueP (by omega) (hw0.mono hx12)).sub subS) ?_
 rintro r H3 ⟨hx3,rfl⟩
 rw[hV]
 unfold tup3
 have hx13:=hx12.trans hx3
 have hl3:=hx13.1
 (try simp only[ctlB])
 repeat' ((first|refine xSTd ?_|refine xOTd rfl ?_);(try simp only[ctlB]))
 refine xHTd ?_
 refine wpH_call0 ((RValueP (by omega) (hw0.mono hx13) (by omega)).sub subS) ?_
 rintro r H4 ⟨hx4,rfl⟩
 rw[hV]
 unfold tup3
 have hx14:=hx13.trans hx4
 have hl4:=hx14.1
 have hx24:=hx3.trans hx4
 have hi:=ints (lo:=H.length) (hL1.mono hx24) (hL2.mono hx24) (by omega) (by omega)
 rw[decide_eq_true rfl]at hi
 clear hw0 hw hL1 hL2 hV
 (try simp only[ctlB])
 repeat' ((first|refine xSTd ?_|refine xOTd rfl ?_);(try simp only[ctlB]))
 refine xHTd ?_
 refine wpH_call0 (hi.sub subS) ?_
 rintro r K ⟨rfl,rfl⟩
 (try simp only[ctlB])
 refine xTLc ?_
 refine wpH_call0 (aliveP (by omega)) ?_
 rintro r K2 ⟨hx5,rfl⟩
 (try simp only[ctlB])
 repeat' ((first|refine xSTd ?_|refine xOTd rfl ?_);(try simp only[ctlB]))
 refine xRTd ?_
 rfl
end Go.Proofs.YtgiojnobcjnibaaGreatDoor
