/- Lemmas. -/
import Derived.Test.YtgiojnobcjnibaaGreatDoorI9
import Derived.Test.YtgiojnobcjnibaaGreatDoorI10
set_option linter.unusedVariables false
set_option linter.unusedSimpArgs false
set_option linter.unusedSectionVars false
namespace Go.Proofs.YtgiojnobcjnibaaGreatDoor
open Go.Abs
set_option maxRecDepth 20000
def indA(r n c l:Nat):Nat×Nat:=
 if r%3=0 then(30*(r/3)+(n-1)/3,30*(r/3)+(c-1))
 else if r%3=1 then(30*(r/3)+(3*l+(n-1)%3),30*(r/3)+(n-1)/3)
 else(30*(r/3)+(c-1),30*(r/3)+(3*l+(n-1)%3))
def tup3(a b e:Nat):Value:=.tuple #[.int .i64 (a:Nat),.int .i64 (b:Nat),.int .i64 (e:Nat)]
def indV(r n c l:Int):Value:=
 if n<3∨90<n∨c<1∨30<c∨r<0∨n≤r then tup3 0 0 3
 else if l<0∨8<l then tup3 0 0 15
 else tup3 (indA r.toNat n.toNat c.toNat l.toNat).1 (indA r.toNat n.toNat c.toNat l.toNat).2 0
set_option linter.defProp false in
def xBIa:=And.intro @Int.cast_ofNat_Int @ite_self.{1}
theorem xEIa{P:Prop}(h:P:=by simp(disch:=first|omega|(simp only[lenB];omega))only[evB,xBIa,Nat.reduceAdd,Nat.reduceMul,Nat.reduceBEq,Int.reduceToNat,Int.reduceEq,Int.reduceNe, *];rfl):P:=h
theorem xSIa{cp:FuncId→Option CF}{lo:Nat}{l:List (Nat×E)}{chk:List E}{Q:Post}{S:List Value}{H:Heap}{vs:List (Nat×Value)}{S':List Value}(k:Q .normal S' H)(h:evSets S H l=some vs:=by exact xEIa)(hc:evChk S H chk=true:=by simp(disch:=first|omega|(simp only[lenB];omega))only[evB,xBIa,Nat.reduceAdd,Nat.reduceMul,Nat.reduceBEq,Int.reduceToNat,Int.reduceEq,Int.reduceNe, *])(hS:setAll S vs=S':=by exact xEIa):wpS cp lo (.sets l chk) Q S H:=aw_sets h hc hS k
theorem xHIa{cp:FuncId→Option CF}{lo:Nat}{l:List (Nat×E)}{chk:List E}{Q:Post}{S:List Value}{H:Heap}{vs:List (Nat×Value)}{dst:Option Nat}{o:HOp}{a:E}{xs:List Value}(k:wpH cp lo o xs H fun v H'=>Q .normal (setD (setAll S vs) dst v) H')(h:evSets S H l=some vs:=by exact xEIa)(hc:evChk S H chk=true:=by simp(disch:=first|omega|(simp only[lenB];omega))only[evB,xBIa,Nat.reduceAdd,Nat.reduceMul,Nat.reduceBEq,Int.reduceToNat,Int.reduceEq,Int.reduceNe, *])(ha:ev S H a=some xs:=by exact xEIa):wpS cp lo (.hv l chk [] dst o a) Q S H:=aw_hv h hc ha k
theorem xOIa{cp:FuncId→Option CF}{lo:Nat}{l:List (Nat×E)}{chk:List E}{Q:Post}{S:List Value}{H:Heap}{vs:List (Nat×Value)}{dst:Option Nat}{o:HOp}{a:E}{xs:List Value}{S':List Value}{H':Heap}{v:Value}(hcall:o.isCall=false)(k:Q .normal S' H')(h:evSets S H l=some vs:=by exact xEIa)(hc:evChk S H chk=true:=by simp(disch:=first|omega|(simp only[lenB];omega))only[evB,xBIa,Nat.reduceAdd,Nat.reduceMul,Nat.reduceBEq,Int.reduceToNat,Int.reduceEq,Int.reduceNe, *])(ha:ev S H a=some xs:=by exact xEIa)(ho:hsem0 lo o xs H=some (v,H'):=by exact xEIa)(hS:setD (setAll S vs) dst v=S':=by exact xEIa):wpS cp lo (.hv l chk [] dst o a) Q S H:=aw_op hcall h hc ha ho hS k
theorem xCIa{cp:FuncId→Option CF}{lo:Nat}{c:E}{a b:Stm}{Q:Post}{S:List Value}{H:Heap}{t:Bool}(k1:t=true→wpS cp lo a Q S H)(k2:t=false→wpS cp lo b Q S H)(h:ev1 S H c=some (.bool t):=by exact xEIa):wpS cp lo (.cond c a b) Q S H:=aw_cond h k1 k2
theorem xRIa{cf:CF}{R:Value→Heap→Prop}{S:List Value}{H:Heap}{vs:List Value}(k:R (resultOf vs) H)(h:evList S H cf.res=some vs:=by exact xEIa):bodyQ cf R .ret S H:=body_ret h k
theorem indP{lo:Nat}{H:Heap}{r n c l:Int}:Ev cp lo 15 [.int .i64 r,.int .i64 n,.int .i64 c,.int .i64 l] H (fun v H'=>H'=H∧v=indV r n c l):=by
 unfold indV
 refine st15 ?_;unfold bd15 cf15;simp only[kB,ctlB]
 repeat' ((first|refine xSIa ?_|refine xOIa rfl ?_);(try simp only[ctlB]))
 refine xCIa (fun h=>?_) (fun h=>?_)
 ·have e:n<3∨90<n∨c<1∨30<c∨r<0∨n≤r:=by simp only[Bool.or_eq_true,decide_eq_true_eq]at h;omega
  clear h
  rw[if_pos e]
  clear e
  (try simp only[ctlB])
  repeat' ((first|refine xSIa ?_|refine xOIa rfl ?_);(try simp only[ctlB]))
  refine xRIa ?_
  exact⟨rfl,rfl⟩
 have e:¬ (n<3∨90<n∨c<1∨30<c∨r<0∨n≤r):=by simp only[Bool.or_eq_false_iff,decide_eq_false_iff_not]at h;omega
 clear h
 rw[if_neg e]
 obtain⟨r,rfl⟩:∃q:Nat,r=q:=⟨r.toNat,by omega⟩
 obtain⟨n,rfl⟩:∃q:Nat,n=(q+1:Nat):=⟨(n-1).toNat,by omega⟩
 obtain⟨c,rfl⟩:∃q:Nat,c=(q+1:Nat):=⟨(c-1).toNat,by omega⟩
 have hb:r≤89∧n≤89∧c≤29:=by omega
 obtain⟨b1,b2,b3⟩:=hb
 clear e
 (try simp only[ctlB])
 refine xCIa (fun h=>?_) (fun h=>?_)
 ·have e:l<0∨8<l:=by simp only[Bool.or_eq_true,decide_eq_true_eq]at h;omega
  clear h
  rw[if_pos e]
  clear e
  (try simp only[ctlB])
  repeat' ((first|refine xSIa ?_|refine xOIa rfl ?_);(try simp only[ctlB]))
  refine xRIa ?_
  exact⟨rfl,rfl⟩
 have e:¬ (l<0∨8<l):=by simp only[Bool.or_eq_false_iff,decide_eq_false_iff_not]at h;omega
 clear h
 rw[if_neg e]
 obtain⟨l,rfl⟩:∃q:Nat,l=q:=⟨l.toNat,by omega⟩
 have hl:l≤8:=by omega
 clear e
 have e1:((r:Nat):Int).tdiv 3=((r/3:Nat):Int):=rfl
 have e2:((r:Nat):Int).tmod 3=((r%3:Nat):Int):=rfl
 have e0:((n+1:Nat):Int)-1=(n:Nat):=by omega
 have e3:((n:Nat):Int).tdiv 3=((n/3:Nat):Int):=rfl
 have e4:((n:Nat):Int).tmod 3=((n%3:Nat):Int):=rfl
 have hm:r%3<3∧n%3<3∧r/3≤30∧n/3≤30:=by omega
 have hI:indA (r:Int).toNat ((n+1:Nat):Int).toNat ((c+1:Nat):Int).toNat (l:Int).toNat=if r%3=0 then(30*(r/3)+n/3,30*(r/3)+c) else if r%3=1 then(30*(r/3)+(3*l+n%3),30*(r/3)+n/3) else(30*(r/3)+c,30*(r/3)+(3*l+n%3)):=by
  simp[indA]
 rw[hI]
 clear hI
 obtain⟨m1,m2,m3,m4⟩:=hm
 generalize r%3=u at *
 generalize r/3=q at *
 generalize n%3=v at *
 generalize n/3=w at *
 unfold tup3
 (try simp only[ctlB])
 repeat' ((first|refine xSIa ?_|refine xOIa rfl ?_);(try simp only[ctlB]))
 refine xCIa (fun h=>?_) (fun h=>?_)
 ·have h0:u=0:=by simp only[decide_eq_true_eq]at h;omega
  clear h
  rw[if_pos h0]
  clear e1 e2 e3 e4 e0 h0
  (try simp only[ctlB])
  repeat' ((first|refine xSIa ?_|refine xOIa rfl ?_);(try simp only[ctlB]))
  refine xRIa ?_
  exact⟨rfl,by simp[resultOf]<;>omega⟩
 have h0:¬ (u=0):=by simp only[decide_eq_false_iff_not]at h;omega
 clear h
 rw[if_neg h0]
 (try simp only[ctlB])
 refine xCIa (fun h=>?_) (fun h=>?_)
 ·have h1:u=1:=by simp only[decide_eq_true_eq]at h;omega
  clear h
  rw[if_pos h1]
  clear e1 e2 e3 e4 e0 h0 h1
  (try simp only[ctlB])
  repeat' ((first|refine xSIa ?_|refine xOIa rfl ?_);(try simp only[ctlB]))
  refine xRIa ?_
  exact⟨rfl,by simp[resultOf]<;>omega⟩
 have h1:¬ (u=1):=by simp only[decide_eq_false_iff_not]at h;omega
 clear h
 rw[if_neg h1]
 clear e1 e2 e3 e4 e0 h0 h1
 (try simp only[ctlB])
 repeat' ((first|refine xSIa ?_|refine xOIa rfl ?_);(try simp only[ctlB]))
 refine xRIa ?_
 exact⟨rfl,by simp[resultOf]<;>omega⟩
theorem marksP{lo:Nat}{H:Heap}{n c l:Nat}(hlo:lo≤H.length)(hn:n≤89)(hc:c≤29)(hl:l≤8):Ev cp lo 30 [.int .i64 ((n+1:Nat):Int),.int .i64 ((c+1:Nat):Int),.int .i64 (l:Nat)] H (fun v H'=>Ext H H'∧v=.agg #[.int .i64 ((n/3:Nat):Int),.int .i64 ((3*l+n%3:Nat):Int),.int .i64 (c:Nat)]):=by
 have e0:((n+1:Nat):Int)-1=(n:Nat):=by omega
 have e5:((c+1:Nat):Int)-1=(c:Nat):=by omega
 have e3:((n:Nat):Int).tdiv 3=((n/3:Nat):Int):=rfl
 have e4:((n:Nat):Int).tmod 3=((n%3:Nat):Int):=rfl
 have hm:n%3<3∧n/3≤30:=by omega
 generalize n%3=v at *
 generalize n/3=w at *
 obtain⟨m1,m2⟩:=hm
 refine st30 ?_;unfold bd30 cf30;simp only[kB,ctlB]
 repeat' ((first|refine xSIa ?_|refine xOIa rfl ?_);(try simp only[ctlB]))
 refine xRIa ?_
 exact⟨Ext.app _ _,by simp[resultOf]⟩
theorem rindP{lo:Nat}{H:Heap}{r n c l:Int}(hlo:lo≤H.length):Ev cp lo 16 [.int .i64 r,.int .i64 n,.int .i64 c,.int .i64 l] H (fun v H'=>Ext H H'∧v=indV r n c l):=by
 unfold indV
 refine st16 ?_;unfold bd16 cf16;simp only[kB,ctlB]
 repeat' ((first|refine xSIa ?_|refine xOIa rfl ?_);(try simp only[ctlB]))
 refine xCIa (fun h=>?_) (fun h=>?_)
 ·have e:n<3∨90<n∨c<1∨30<c∨r<0∨n≤r:=by simp only[Bool.or_eq_true,decide_eq_true_eq]at h;omega
  clear h
  rw[if_pos e]
  clear e
  (try simp only[ctlB])
  repeat' ((first|refine xSIa ?_|refine xOIa rfl ?_);(try simp only[ctlB]))
  refine xRIa ?_
  exact⟨Ext.refl _,rfl⟩
 have e:¬ (n<3∨90<n∨c<1∨30<c∨r<0∨n≤r):=by simp only[Bool.or_eq_false_iff,decide_eq_false_iff_not]at h;omega
 clear h
 rw[if_neg e]
 obtain⟨r,rfl⟩:∃q:Nat,r=q:=⟨r.toNat,by omega⟩
 obtain⟨n,rfl⟩:∃q:Nat,n=(q+1:Nat):=⟨(n-1).toNat,by omega⟩
 obtain⟨c,rfl⟩:∃q:Nat,c=(q+1:Nat):=⟨(c-1).toNat,by omega⟩
 have hb:r≤89∧n≤89∧c≤29:=by omega
 obtain⟨b1,b2,b3⟩:=hb
 clear e
 (try simp only[ctlB])
 refine xCIa (fun h=>?_) (fun h=>?_)
 ·have e:l<0∨8<l:=by simp only[Bool.or_eq_true,decide_eq_true_eq]at h;omega
  clear h
  rw[if_pos e]
  clear e
  (try simp only[ctlB])
  repeat' ((first|refine xSIa ?_|refine xOIa rfl ?_);(try simp only[ctlB]))
  refine xRIa ?_
  exact⟨Ext.refl _,rfl⟩
 have e:¬ (l<0∨8<l):=by simp only[Bool.or_eq_false_iff,decide_eq_false_iff_not]at h;omega
 clear h
 rw[if_neg e]
 obtain⟨l,rfl⟩:∃q:Nat,l=q:=⟨l.toNat,by omega⟩
 have hl:l≤8:=by omega
 clear e
 (try simp only[ctlB])
 refine xHIa ?_
 refine wpH_call0 (marksP hlo b2 b3 hl) ?_
 rintro x K ⟨hx,rfl⟩
 have hlK:=hx.1
 have e1:((r:Nat):Int).tdiv 3=((r/3:Nat):Int):=rfl
 have e2:((r:Nat):Int).tmod 3=((r%3:Nat):Int):=rfl
 have e6:(((r:Nat):Int)+2).tmod 3=(((r+2)%3:Nat):Int):=by
  rw[show((r:Nat):Int)+2=((r+2:Nat):Int) by omega];rfl
 have hm:n%3<3∧r/3≤30∧n/3≤30:=by omega
 have hI:indA (r:Int).toNat ((n+1:Nat):Int).toNat ((c+1:Nat):Int).toNat (l:Int).toNat=if r%3=0 then(30*(r/3)+n/3,30*(r/3)+c) else if r%3=1 then(30*(r/3)+(3*l+n%3),30*(r/3)+n/3) else(30*(r/3)+c,30*(r/3)+(3*l+n%3)):=by
  simp[indA]
 rw[hI]
 clear hI
 obtain⟨m2,m3,m4⟩:=hm
 have h3:(r%3=0∧(r+2)%3=2)∨(r%3=1∧(r+2)%3=0)∨(r%3=2∧(r+2)%3=1):=by omega
 generalize r%3=u at *
 generalize (r+2)%3=u2 at *
 generalize r/3=q at *
 generalize n%3=v at *
 generalize n/3=w at *
 unfold tup3
 rcases h3 with ⟨rfl,rfl⟩|⟨rfl,rfl⟩|⟨rfl,rfl⟩
 all_goals
  (try simp only[ctlB])
  repeat' ((first|refine xSIa ?_|refine xOIa rfl ?_);(try simp only[ctlB]))
  refine xRIa ?_
  exact⟨hx.trans (Ext.app _ _),by simp[resultOf]<;>omega⟩
end Go.Proofs.YtgiojnobcjnibaaGreatDoor
