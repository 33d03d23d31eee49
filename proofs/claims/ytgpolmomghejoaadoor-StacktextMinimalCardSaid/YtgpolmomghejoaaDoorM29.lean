/- Lemmas. -/
import Derived.Test.YtgpolmomghejoaaDoorM26
import Derived.Test.YtgpolmomghejoaaDoorM27
set_option linter.unusedVariables false
set_option linter.unusedSimpArgs false
set_option linter.unusedSectionVars false
namespace Go.Proofs.YtgpolmomghejoaaDoor
open Go.Abs
set_option maxRecDepth 20000
theorem min_len{l:List Int}{p:List UInt8}{ws:List Nat}(h:decT l=(p,0))(hb:BestIn (Acc p (0,0,0,0)) ws):ws.length≤l.length:=by
 rw[decT_eq]at h
 split at h
 ·cases h
 split at h
 ·obtain⟨w',h1,h2,-⟩:=dec_acc (p:=p) (l.length+1) (l.map Int.toNat) 0 0 0 (by simp) (by decide) (by decide) (Nat.zero_le _) (by rw[List.take_zero];exact h)
  have h3:w'.length≤l.length:=by
   rcases h2 with rfl|h2
   ·simp
   ·rw[List.length_map]at h2;omega
  rcases hb.2 w' h1 with h4|⟨h4,-⟩<;>omega
 ·cases h
set_option linter.defProp false in
def xBXmi:=And.intro @Int.cast_ofNat_Int (And.intro @ite_self.{1} (And.intro @vcells2 (And.intro @ls_lenS' (And.intro @str_size (And.intro @ls_seq (And.intro @ls_sne (And.intro @ls_idxS' (And.intro @ls_idxS0 (And.intro @ls_slSa (And.intro @ls_slSb (And.intro @ls_slSc (And.intro @ls_sadd @ca1))))))))))))
theorem xEXmi{P:Prop}(h:P:=by simp(disch:=first|omega|(simp only[lenB];omega))only[evB,xBXmi,Nat.reduceAdd,Nat.reduceMul,Nat.reduceBEq,Int.reduceToNat,Int.reduceEq,Int.reduceNe, *];rfl):P:=h
theorem xSXmi{cp:FuncId→Option CF}{lo:Nat}{l:List (Nat×E)}{chk:List E}{Q:Post}{S:List Value}{H:Heap}{vs:List (Nat×Value)}{S':List Value}(k:Q .normal S' H)(h:evSets S H l=some vs:=by exact xEXmi)(hc:evChk S H chk=true:=by simp(disch:=first|omega|(simp only[lenB];omega))only[evB,xBXmi,Nat.reduceAdd,Nat.reduceMul,Nat.reduceBEq,Int.reduceToNat,Int.reduceEq,Int.reduceNe, *])(hS:setAll S vs=S':=by exact xEXmi):wpS cp lo (.sets l chk) Q S H:=aw_sets h hc hS k
theorem xHXmi{cp:FuncId→Option CF}{lo:Nat}{l:List (Nat×E)}{chk:List E}{Q:Post}{S:List Value}{H:Heap}{vs:List (Nat×Value)}{dst:Option Nat}{o:HOp}{a:E}{xs:List Value}(k:wpH cp lo o xs H fun v H'=>Q .normal (setD (setAll S vs) dst v) H')(h:evSets S H l=some vs:=by exact xEXmi)(hc:evChk S H chk=true:=by simp(disch:=first|omega|(simp only[lenB];omega))only[evB,xBXmi,Nat.reduceAdd,Nat.reduceMul,Nat.reduceBEq,Int.reduceToNat,Int.reduceEq,Int.reduceNe, *])(ha:ev S H a=some xs:=by exact xEXmi):wpS cp lo (.hv l chk [] dst o a) Q S H:=aw_hv h hc ha k
theorem xOXmi{cp:FuncId→Option CF}{lo:Nat}{l:List (Nat×E)}{chk:List E}{Q:Post}{S:List Value}{H:Heap}{vs:List (Nat×Value)}{dst:Option Nat}{o:HOp}{a:E}{xs:List Value}{S':List Value}{H':Heap}{v:Value}(hcall:o.isCall=false)(k:Q .normal S' H')(h:evSets S H l=some vs:=by exact xEXmi)(hc:evChk S H chk=true:=by simp(disch:=first|omega|(simp only[lenB];omega))only[evB,xBXmi,Nat.reduceAdd,Nat.reduceMul,Nat.reduceBEq,Int.reduceToNat,Int.reduceEq,Int.reduceNe, *])(ha:ev S H a=some xs:=by exact xEXmi)(ho:hsem0 lo o xs H=some (v,H'):=by exact xEXmi)(hS:setD (setAll S vs) dst v=S':=by exact xEXmi):wpS cp lo (.hv l chk [] dst o a) Q S H:=aw_op hcall h hc ha ho hS k
theorem xCXmi{cp:FuncId→Option CF}{lo:Nat}{c:E}{a b:Stm}{Q:Post}{S:List Value}{H:Heap}{t:Bool}(k1:t=true→wpS cp lo a Q S H)(k2:t=false→wpS cp lo b Q S H)(h:ev1 S H c=some (.bool t):=by exact xEXmi):wpS cp lo (.cond c a b) Q S H:=aw_cond h k1 k2
theorem xTXmi{cp:FuncId→Option CF}{lo:Nat}{l:List (Nat×E)}{chk:List E}{Q:Post}{S:List Value}{H:Heap}{vs:List (Nat×Value)}{dst:Option Nat}{o:HOp}{a:E}{xs:List Value}{pc:PC}(k:wpH cp lo o xs H fun v H'=>Q .normal (setD (setAll S vs) dst v) H')(h:evSets S H l=some vs:=by exact xEXmi)(hc:evChk S H chk=true:=by simp(disch:=first|omega|(simp only[lenB];omega))only[evB,xBXmi,Nat.reduceAdd,Nat.reduceMul,Nat.reduceBEq,Int.reduceToNat,Int.reduceEq,Int.reduceNe, *])(hp:holds S H pc=some true:=by simp(disch:=first|omega|(simp only[lenB];omega))only[evB,xBXmi,Nat.reduceAdd,Nat.reduceMul,Nat.reduceBEq,Int.reduceToNat,Int.reduceEq,Int.reduceNe, *];try rfl)(ha:ev S H a=some xs:=by exact xEXmi):wpS cp lo (.hv l chk pc dst o a) Q S H:=aw_hvT h hc hp ha k
theorem xRXmi{cf:CF}{R:Value→Heap→Prop}{S:List Value}{H:Heap}{vs:List Value}(k:R (resultOf vs) H)(h:evList S H cf.res=some vs:=by exact xEXmi):bodyQ cf R .ret S H:=body_ret h k
theorem lawMinP{H:Heap}{v:Value}{l:List Int}(hv:SlI H v l)(ht:H.get 0=some pow10V) :
  Ev cpx H.length 9 [v] H (fun r _=>r=.bool true):=by
 have hv0:=hv
 obtain⟨ad,c0,rfl⟩:=hv.len
 have hX:=exampleP (Nat.le_refl H.length) ht
 have hD:=decodeP (lo:=H.length) (H:=H) (l:=l) (Nat.le_refl _) hv0 ht
 obtain⟨p,e,hpe⟩:∃(p:List UInt8) (e:Nat),decT l=(p,e):=⟨_,_,rfl⟩
 rw[hpe]at hD
 replace hpe:False∨_:=.inr hpe
 refine xt9 ?_
 unfold bd9 cf9
 simp only[kB,ctlB]
 repeat' ((first|refine xSXmi ?_|refine xOXmi rfl ?_);(try simp only[ctlB]))
 refine xCXmi (fun h=>?_) (fun h=>?_)
 ·clear h
  (try simp only[ctlB])
  refine xHXmi ?_
  refine wpH_call0 hX ?_
  rintro r K ⟨-,rfl⟩
  (try simp only[ctlB])
  repeat' ((first|refine xSXmi ?_|refine xOXmi rfl ?_);(try simp only[ctlB]))
  refine xRXmi ?_
  rfl
 clear h hX
 (try simp only[ctlB])
 refine xHXmi ?_
 refine wpH_call0 hD ?_
 clear hD
 rintro r K1 ⟨hx1,u1,rfl,hu1⟩
 have hl1:=hx1.1
 have ht1:=hx1.get ht
 have hu10:=hu1
 obtain⟨a1,c1,rfl⟩:=hu1.len
 have hX:=exampleP hl1 ht1
 (try simp only[ctlB])
 repeat' ((first|refine xSXmi ?_|refine xOXmi rfl ?_);(try simp only[ctlB]))
 refine xCXmi (fun h=>?_) (fun h=>?_)
 ·clear h
  (try simp only[ctlB])
  refine xHXmi ?_
  refine wpH_call0 hX ?_
  rintro r K ⟨-,rfl⟩
  (try simp only[ctlB])
  repeat' ((first|refine xSXmi ?_|refine xOXmi rfl ?_);(try simp only[ctlB]))
  refine xRXmi ?_
  rfl
 have he:e=0∧p.length≤200:=by
  simp only[Bool.or_eq_false_iff,decide_eq_false_iff_not]at h
  omega
 clear h hX
 obtain⟨rfl,hp⟩:=he
 have hL:=lengthP (lo:=H.length) (p:=p) (fun {H0 lo B pv F}=>digP (by omega)) hl1 hu10 (by omega)
 (try simp only[ctlB])
 refine xHXmi ?_
 refine wpH_call0 (hL.sub sub_cpx) ?_
 clear hL
 rintro r K2 ⟨hx2,ws,T,rfl,-,-,-,hb⟩
 have hle:=min_len (hpe.resolve_left id) hb
 have hlei:((ws.length:Nat):Int)≤((l.length:Nat):Int):=by omega
 have hx12:=hx1.trans hx2
 have hX:=exampleP hx12.1 (hx12.get ht)
 clear hb
 (try simp only[ctlB])
 repeat' ((first|refine xSXmi ?_|refine xOXmi rfl ?_);(try simp only[ctlB]))
 refine xTXmi ?_
 refine wpH_call0 hX ?_
 rintro r K4 ⟨-,rfl⟩
 (try simp only[ctlB])
 repeat' ((first|refine xSXmi ?_|refine xOXmi rfl ?_);(try simp only[ctlB]))
 refine xRXmi ?_
 rfl
end Go.Proofs.YtgpolmomghejoaaDoor
