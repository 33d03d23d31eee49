/- Lemmas. -/
import Derived.Test.YtgiojnobcjnibaaGreatDoorP9
import Derived.Test.YtgiojnobcjnibaaGreatDoorP10
import Derived.Test.YtgiojnobcjnibaaGreatDoorP12
set_option linter.unusedVariables false
set_option linter.unusedSimpArgs false
set_option linter.unusedSectionVars false
namespace Go.Proofs.YtgiojnobcjnibaaGreatDoor
open Go.Abs
set_option maxRecDepth 20000
def tup3(a b e:Nat):Value:=.tuple #[.int .i64 (a:Nat),.int .i64 (b:Nat),.int .i64 (e:Nat)]
theorem sumW_mono{k s c:Nat}:∀{a b:Nat},a≤b→sumW k s c a≤sumW k s c b
 | a,0,h=>by
  obtain rfl:a=0:=by omega
  exact Nat.le_refl _
 | a,b+1,h=>by
  by_cases e:a=b+1
  ·subst e;exact Nat.le_refl _
  ·have:=sumW_mono (k:=k) (s:=s) (c:=c) (a:=a) (b:=b) (by omega)
   simp only[sumW];omega
def pw(k s c v:Nat):Nat:=if v<sumW k s c 1 then 1 else if v<sumW k s c 2 then 2 else if v<sumW k s c 3 then 3 else if v<sumW k s c 4 then 4 else if v<sumW k s c 5 then 5 else 6
theorem pw_le(k s c v:Nat):1≤pw k s c v∧pw k s c v≤6:=by
 unfold pw
 repeat (split;· omega)
 omega
theorem pw_low{k s c v:Nat}:sumW k s c (pw k s c v-1)≤v:=by
 unfold pw
 split
 ·exact Nat.zero_le _
 split
 ·rename_i h _;exact Nat.le_of_not_lt h
 split
 ·rename_i h _;exact Nat.le_of_not_lt h
 split
 ·rename_i h _;exact Nat.le_of_not_lt h
 split
 ·rename_i h _;exact Nat.le_of_not_lt h
 ·rename_i h;exact Nat.le_of_not_lt h
theorem pw_high{k s c v:Nat}(h:v<sumW k s c 6):v<sumW k s c (pw k s c v):=by
 unfold pw
 repeat (split;· assumption)
 exact h
theorem pw_iff{k s c v w:Nat}(hv:v<sumW k s c 6):w<pw k s c v↔sumW k s c w≤v:=by
 constructor
 ·intro h
  exact Nat.le_trans (sumW_mono (by omega)) pw_low
 ·intro h
  refine Decidable.byContradiction fun hn=>?_
  have h1:=pw_high hv
  have h2:=sumW_mono (k:=k) (s:=s) (c:=c) (a:=pw k s c v) (b:=w) (by omega)
  omega
theorem pw_mono{k s c v v':Nat}(h:v≤v')(hv:v'<sumW k s c 6):pw k s c v≤pw k s c v':=by
 refine Decidable.byContradiction fun hn=>?_
 have h1:=(pw_iff (k:=k) (s:=s) (c:=c) (w:=pw k s c v') (v:=v) (by omega)).1 (by omega)
 have h2:=pw_high hv
 omega
theorem sumW_step{k s c w:Nat}(hw:1≤w):sumW k s c w=sumW k s c (w-1)+bhd k s c w:=by
 obtain⟨m,rfl⟩:∃m,w=m+1:=⟨w-1,by omega⟩
 rfl
structure St where
 v:Nat
 s:Nat
 c:Nat
def nxt(k:Nat)(t:St):St:=⟨t.v-sumW k t.s t.c (pw k t.s t.c t.v-1),t.s-pw k t.s t.c t.v,rsN k t.c (pw k t.s t.c t.v)⟩
def stA(c v:Nat):Nat→St
 | 0=>⟨v,17,c⟩
 | k+1=>nxt k (stA c v k)
def wA(c v k:Nat):Nat:=pw k (stA c v k).s (stA c v k).c (stA c v k).v
structure Ok (k:Nat)(t:St):Prop where
 v:t.v<wyN k t.s t.c
 s:t.s<18
 c:t.c<9
theorem Ok.six{k:Nat}{t:St}(h:Ok k t)(hk:k<8):t.v<sumW k t.s t.c 6:=by
 rw[←wyN_sum hk h.s h.c];exact h.v
theorem Ok.w{k:Nat}{t:St}(h:Ok k t)(hk:k<8):pw k t.s t.c t.v≤t.s∧t.v-sumW k t.s t.c (pw k t.s t.c t.v-1)<bhd k t.s t.c (pw k t.s t.c t.v):=by
 have h1:=pw_high (h.six hk)
 have h2:=pw_low (k:=k) (s:=t.s) (c:=t.c) (v:=t.v)
 have h3:=sumW_step (k:=k) (s:=t.s) (c:=t.c) (pw_le k t.s t.c t.v).1
 refine⟨Decidable.byContradiction fun hn=>?_,by omega⟩
 have:bhd k t.s t.c (pw k t.s t.c t.v)=0:=by unfold bhd;rw[if_pos (by omega)]
 omega
theorem Ok.next{k:Nat}{t:St}(h:Ok k t)(hk:k<8):Ok (k+1) (nxt k t):=by
 obtain⟨h1,h2⟩:=h.w hk
 refine⟨?_,by have:=h.s;simp only[nxt];omega,rsN_lt h.c⟩
 unfold bhd at h2
 rw[if_neg (by omega)]at h2
 exact h2
theorem okA{c v:Nat}(h0:v<wyN 0 17 c)(hc:c<9):∀k,k≤8→Ok k (stA c v k)
 | 0,_=>⟨h0,by show 17<18;decide,hc⟩
 | k+1,h=>(okA h0 hc k (by omega)).next (by omega)
theorem ok8{t:St}(h:Ok 8 t):t.v=0∧t.s=0∧t.c=0:=by
 have h1:=h.v
 rw[wy8N h.s h.c]at h1
 split at h1<;>omega
def pS(ws:Nat→Nat):Nat→Nat
 | 0=>0
 | k+1=>pS ws k+ws k
def cA(ws:Nat→Nat)(c:Nat):Nat→Nat
 | 0=>c
 | k+1=>rsN k (cA ws c k) (ws k)
def nA(ws:Nat→Nat)(c:Nat):Nat→Nat
 | 0=>0
 | k+1=>nA ws c k+sumW k (17-pS ws k) (cA ws c k) (ws k-1)
theorem nA_le(ws:Nat→Nat)(c:Nat)(h:∀k,k<8→ws k≤6):∀k,k≤8→nA ws c k≤6000000*k
 | 0,_=>Nat.le_refl _
 | k+1,hk=>by
  have h1:=nA_le ws c h k (by omega)
  have h2:=sumW_le k (17-pS ws k) (cA ws c k) (ws k-1)
  have h3:=h k (by omega)
  simp only[nA];omega
theorem cA_lt(ws:Nat→Nat){c:Nat}(hc:c<9):∀k,cA ws c k<9
 | 0=>hc
 | k+1=>rsN_lt (cA_lt ws hc k)
theorem pS_le{ws:Nat→Nat}:∀{a b:Nat},a≤b→pS ws a≤pS ws b
 | a,0,h=>by
  obtain rfl:a=0:=by omega
  exact Nat.le_refl _
 | a,b+1,h=>by
  by_cases e:a=b+1
  ·subst e;exact Nat.le_refl _
  ·have:=pS_le (ws:=ws) (a:=a) (b:=b) (by omega)
   simp only[pS];omega
theorem back{c v:Nat}(h0:v<wyN 0 17 c)(hc:c<9):∀k,k≤8→(stA c v k).s+pS (wA c v) k=17∧cA (wA c v) c k=(stA c v k).c∧nA (wA c v) c k+(stA c v k).v=v
 | 0,_=>by simp[stA,pS,cA,nA]
 | k+1,h=>by
  obtain⟨h1,h2,h3⟩:=back h0 hc k (by omega)
  have hok:=okA h0 hc k (by omega)
  obtain⟨w1,-⟩:=hok.w (by omega)
  have w2:=pw_low (k:=k) (s:=(stA c v k).s) (c:=(stA c v k).c) (v:=(stA c v k).v)
  have e1:17-pS (wA c v) k=(stA c v k).s:=by omega
  simp only[stA,pS,cA,nA,nxt,e1,h2]
  refine⟨?_,rfl,?_⟩
  ·simp only[wA];omega
  ·simp only[wA];omega
def clu(ws:Nat→Nat):Nat:=(ws 0+18-ws 2+ws 4-ws 6)%9
theorem cA8{ws:Nat→Nat}{c:Nat}(hc:c<9)(h:∀k,k<8→ws k≤6)(h8:cA ws c 8=0):clu ws=c:=by
 simp only[cA,rsN]at h8
 unfold clu
 have a0:=h 0 (by omega)
 have a2:=h 2 (by omega)
 have a4:=h 4 (by omega)
 have a6:=h 6 (by omega)
 simp at h8
 omega
theorem pattern_back{c v:Nat}(h0:v<wyN 0 17 c)(hc:c<9):pS (wA c v) 8=17∧clu (wA c v)=c∧nA (wA c v) c 8=v:=by
 obtain⟨h1,h2,h3⟩:=back h0 hc 8 (Nat.le_refl _)
 obtain⟨e1,e2,e3⟩:=ok8 (okA h0 hc 8 (Nat.le_refl _))
 exact⟨by omega,cA8 hc (fun k _=>(pw_le _ _ _ _).2) (by rw[h2,e3]),by omega⟩
theorem same_to{c v v':Nat}(h:v<v')(h0:v'<wyN 0 17 c)(hc:c<9):∀k,k≤8→(∀j,j<k→wA c v j=wA c v' j)→(stA c v k).s=(stA c v' k).s∧(stA c v k).c=(stA c v' k).c∧(stA c v k).v<(stA c v' k).v
 | 0,_,_=>⟨rfl,rfl,h⟩
 | k+1,hk,he=>by
  obtain⟨h1,h2,h3⟩:=same_to h h0 hc k (by omega) fun j hj=>he j (by omega)
  have e:=he k (by omega)
  have w1:=pw_low (k:=k) (s:=(stA c v k).s) (c:=(stA c v k).c) (v:=(stA c v k).v)
  simp only[wA,←h1,←h2]at e
  simp only[stA,nxt,←h1,←h2,←e,true_and]
  omega
theorem order{c v v':Nat}(h:v<v')(h0:v'<wyN 0 17 c)(hc:c<9){k:Nat}(hk:k<8)(he:∀j,j<k→wA c v j=wA c v' j):wA c v k≤wA c v' k:=by
 obtain⟨h1,h2,h3⟩:=same_to h h0 hc k (by omega) he
 have hok:=(okA h0 hc k (by omega)).six hk
 simp only[wA,h1,h2]
 exact pw_mono (by omega) hok
theorem differ{c v v':Nat}(h:v<v')(h0:v'<wyN 0 17 c)(hc:c<9):¬ ∀j,j<8→wA c v j=wA c v' j:=by
 intro he
 obtain⟨-,-,h3⟩:=same_to h h0 hc 8 (Nat.le_refl _) he
 obtain⟨e1,-,-⟩:=ok8 (okA h0 hc 8 (Nat.le_refl _))
 omega
theorem sumW_min{k s c:Nat}:sumW k s c (min 6 s)=sumW k s c 6:=by
 by_cases h:6≤s
 ·rw[Nat.min_eq_left h]
 ·have:∀d,s+d≤6→sumW k s c (s+d)=sumW k s c s:=by
   intro d
   induction d with
   | zero=>intro _;rfl
   | succ d ih=>
    intro hd
    show sumW k s c (s+d)+bhd k s c (s+d+1)=_
    rw[ih (by omega)]
    unfold bhd
    rw[if_pos (by omega)];rfl
  have e:=this (6-s) (by omega)
  rw[Nat.min_eq_right (by omega),show s+(6-s)=6 by omega]at *
  exact e.symm
theorem set_last2(H:Heap)(z x y:Option (List Value)):(H++[z,x]).set (H.length+1) y=H++[z,y]:=by
 rw[List.set_append_right _ _ (by omega),show H.length+1-H.length=1 by omega];rfl
theorem get_last2(H:Heap)(z:Option (List Value))(x:List Value):Heap.get (H++[z,some x]) (H.length+1)=some x:=by
 unfold Heap.get
 rw[List.getElem?_append_right (by omega),show H.length+1-H.length=1 by omega];rfl
theorem get_last1(H:Heap)(x:List Value)(z:Option (List Value)):Heap.get (H++[some x,z]) H.length=some x:=by
 unfold Heap.get
 rw[List.getElem?_append_right (by omega),show H.length-H.length=0 by omega];rfl
theorem set_last1(H:Heap)(z x y:Option (List Value)):(H++[z,x]).set H.length y=H++[y,x]:=by
 rw[List.set_append_right _ _ (by omega),show H.length-H.length=0 by omega];rfl
theorem oneTab:oneCells tabV=true:=by kernel_rfl
theorem lenTab:tabV.length=1458:=by kernel_rfl
theorem put_all{a b:List Value}(h:a.length=b.length):putCells a 0 b=b:=by
 unfold putCells
 rw[List.take_zero,List.nil_append,List.drop_eq_nil_of_le (by omega),List.append_nil]
set_option linter.defProp false in
def xBUb:=And.intro @Int.cast_ofNat_Int (And.intro @ite_self.{1} (And.intro @List.length_replicate (And.intro @List.append_nil @Nat.min_self)))
theorem xEUb{P:Prop}(h:P:=by simp(disch:=first|omega|(simp only[lenB];omega))only[evB,xBUb,Nat.reduceAdd,Nat.reduceMul,Nat.reduceBEq,Int.reduceToNat,Int.reduceEq,Int.reduceNe, *];rfl):P:=h
theorem xSUb{cp:FuncId→Option CF}{lo:Nat}{l:List (Nat×E)}{chk:List E}{Q:Post}{S:List Value}{H:Heap}{vs:List (Nat×Value)}{S':List Value}(k:Q .normal S' H)(h:evSets S H l=some vs:=by exact xEUb)(hc:evChk S H chk=true:=by simp(disch:=first|omega|(simp only[lenB];omega))only[evB,xBUb,Nat.reduceAdd,Nat.reduceMul,Nat.reduceBEq,Int.reduceToNat,Int.reduceEq,Int.reduceNe, *])(hS:setAll S vs=S':=by exact xEUb):wpS cp lo (.sets l chk) Q S H:=aw_sets h hc hS k
theorem xHUb{cp:FuncId→Option CF}{lo:Nat}{l:List (Nat×E)}{chk:List E}{Q:Post}{S:List Value}{H:Heap}{vs:List (Nat×Value)}{dst:Option Nat}{o:HOp}{a:E}{xs:List Value}(k:wpH cp lo o xs H fun v H'=>Q .normal (setD (setAll S vs) dst v) H')(h:evSets S H l=some vs:=by exact xEUb)(hc:evChk S H chk=true:=by simp(disch:=first|omega|(simp only[lenB];omega))only[evB,xBUb,Nat.reduceAdd,Nat.reduceMul,Nat.reduceBEq,Int.reduceToNat,Int.reduceEq,Int.reduceNe, *])(ha:ev S H a=some xs:=by exact xEUb):wpS cp lo (.hv l chk [] dst o a) Q S H:=aw_hv h hc ha k
theorem xOUb{cp:FuncId→Option CF}{lo:Nat}{l:List (Nat×E)}{chk:List E}{Q:Post}{S:List Value}{H:Heap}{vs:List (Nat×Value)}{dst:Option Nat}{o:HOp}{a:E}{xs:List Value}{S':List Value}{H':Heap}{v:Value}(hcall:o.isCall=false)(k:Q .normal S' H')(h:evSets S H l=some vs:=by exact xEUb)(hc:evChk S H chk=true:=by simp(disch:=first|omega|(simp only[lenB];omega))only[evB,xBUb,Nat.reduceAdd,Nat.reduceMul,Nat.reduceBEq,Int.reduceToNat,Int.reduceEq,Int.reduceNe, *])(ha:ev S H a=some xs:=by exact xEUb)(ho:hsem0 lo o xs H=some (v,H'):=by exact xEUb)(hS:setD (setAll S vs) dst v=S':=by exact xEUb):wpS cp lo (.hv l chk [] dst o a) Q S H:=aw_op hcall h hc ha ho hS k
theorem xRUb{cf:CF}{R:Value→Heap→Prop}{S:List Value}{H:Heap}{vs:List Value}(k:R (resultOf vs) H)(h:evList S H cf.res=some vs:=by exact xEUb):bodyQ cf R .ret S H:=body_ret h k
theorem waysP{lo:Nat}{H:Heap}(hlo:lo≤H.length):Ev cp lo 26 [] H (fun r H'=>r=.agg ⟨tabV⟩∧Ext H H'):=by
 have hz:=tab_start
 have hzl:(List.replicate 1458 (Value.int .i64 0)).length=1458:=by simp
 have hone:oneCells (List.replicate 1458 (Value.int .i64 0))=true:=by kernel_rfl
 have hpc:=put_all (a:=List.replicate 1458 (Value.int .i64 0)) (b:=List.replicate 1458 (Value.int .i64 0)) rfl
 have s0:=set_last2 H (some (List.replicate 1458 (Value.int .i64 0))) (some (List.replicate 1458 (Value.int .i64 0))) (some ((List.replicate 1458 (Value.int .i64 0)).set 1296 (.int .i64 1)))
 refine st26 ?_;unfold bd26 cf26;simp only[kB,ctlB]
 generalize List.replicate 1458 (Value.int .i64 0)=Z at *
 have g0:=get_last2 H (some Z) Z
 have s1:=set_last2 H (some Z) (some Z) (some Z)
 repeat' ((first|refine xSUb ?_|refine xOUb rfl ?_);(try simp only[ctlB]))
 generalize Z.set 1296 (.int .i64 1)=cs0 at *
 clear g0 s0 s1 hpc hone
 refine aw_for (fun m S H'=>m≤8∧∃cs,H'=H++[some Z,some cs]∧(m=0∧TabF cs (fP 7 0)∨0<m∧TabF cs (fP (8-m) 162))∧∃(z:Nat→Value),S=[.pointer (some ⟨H.length,0,none⟩),.pointer (some ⟨H.length+1,0,none⟩),.int .i64 (((8-m:Nat):Int)-1),z 3,z 4,z 5,z 6,z 7,z 8,z 9,z 10,z 11,z 12]) 8 ?_ ?_ ?_ ?_
 ·exact⟨Nat.zero_le _,cs0,rfl,.inl ⟨rfl,hz⟩,exZTd rfl⟩
 ·rintro m S H' hm ⟨-,cs,rfl,-,z,rfl⟩
  exact⟨_,xEUb,by simp;omega⟩
 ·clear hz
  rintro m S H' hm ⟨-,cs,rfl,ht,z,rfl⟩
  obtain⟨k,hk⟩:∃k,8-m=k+1:=⟨7-m,by omega⟩
  have hk8:k<8:=by omega
  have hkm:8-(m+1)=k:=by omega
  have ht:TabF cs (fP k 0):=by
   rcases ht with ⟨h0,h1⟩|⟨h0,h1⟩
   ·have:k=7:=by omega
    subst this;exact h1
   ·rw[hk]at h1;exact h1.congr fun i _=>fP_row i
  have ek:(((k+1:Nat):Int))-1=(k:Nat):=by omega
  rw[hk,ek]
  clear hk ek
  replace hkm:False∨_:=.inr hkm
  (try simp only[ctlB])
  repeat' ((first|refine xSUb ?_|refine xOUb rfl ?_);(try simp only[ctlB]))
  refine aw_for (fun s S H'=>∃cs,H'=H++[some Z,some cs]∧TabF cs (fP k (9*s))∧∃(z:Nat→Value),S=[.pointer (some ⟨H.length,0,none⟩),.pointer (some ⟨H.length+1,0,none⟩),.int .i64 (k:Nat),.int .i64 (s:Nat),z 4,z 5,z 6,z 7,z 8,z 9,z 10,z 11,z 12]) 18 ?_ ?_ ?_ ?_
  ·exact⟨cs,rfl,ht,exZTd rfl⟩
  ·rintro s S H' hs ⟨cs,rfl,-,z,rfl⟩
   exact⟨_,xEUb,by simp;omega⟩
  ·clear ht
   rintro s S H' hs ⟨cs,rfl,ht,z,rfl⟩
   (try simp only[ctlB])
   repeat' ((first|refine xSUb ?_|refine xOUb rfl ?_);(try simp only[ctlB]))
   refine aw_for (fun c S H'=>∃cs,H'=H++[some Z,some cs]∧TabF cs (fP k (9*s+c))∧∃(z:Nat→Value),S=[.pointer (some ⟨H.length,0,none⟩),.pointer (some ⟨H.length+1,0,none⟩),.int .i64 (k:Nat),.int .i64 (s:Nat),.int .i64 (c:Nat),z 5,z 6,z 7,z 8,z 9,z 10,z 11,z 12]) 9 ?_ ?_ ?_ ?_
   ·exact⟨cs,rfl,ht,exZTd rfl⟩
   ·rintro c S H' hc ⟨cs,rfl,-,z,rfl⟩
    exact⟨_,xEUb,by simp;omega⟩
   ·clear ht
    rintro c S H' hc ⟨cs,rfl,ht,z,rfl⟩
    (try simp only[ctlB])
    repeat' ((first|refine xSUb ?_|refine xOUb rfl ?_);(try simp only[ctlB]))
    have hM:(if (s:Int)<6 then(s:Int) else 6)=((min 6 s:Nat):Int):=by split<;>omega
    refine aw_for (fun w S H'=>∃cs,H'=H++[some Z,some cs]∧TabF cs (fW k (9*s+c) (sumW k s c w))∧∃(z:Nat→Value),S=[.pointer (some ⟨H.length,0,none⟩),.pointer (some ⟨H.length+1,0,none⟩),.int .i64 (k:Nat),.int .i64 (s:Nat),.int .i64 (c:Nat),.int .i64 ((w+1:Nat):Int),z 6,z 7,z 8,z 9,z 10,z 11,z 12]) (min 6 s) ?_ ?_ ?_ ?_
    ·exact⟨cs,rfl,ht.congr fun i _=>fW_start (by omega) i,exZTd rfl⟩
    ·rintro w S H' hw ⟨cs,rfl,-,z,rfl⟩
     exact⟨_,xEUb,by simp;omega⟩
    ·clear ht
     rintro w S H' hw ⟨cs,rfl,ht,z,rfl⟩
     have hrow:=fW_row ht hk8 (by omega)
     have hsame:=ht.same
     have hcl:=ht.1
     have hg:=get_last2 H (some Z) cs
     have hat:=ht.2 (162*k+(9*s+c)) (by omega)
     have hfv:fW k (9*s+c) (sumW k s c w) (162*k+(9*s+c))=sumW k s c w:=by unfold fW;rw[if_pos rfl]
     rw[hfv]at hat
     have ei:162*k+(9*s+c)=k*162+s*9+c:=by omega
     rw[ei]at hat
     have hnew:TabF (cs.set (k*162+s*9+c) (.int .i64 ((sumW k s c (w+1):Nat):Int))) (fW k (9*s+c) (sumW k s c (w+1))):=by
      refine ht.set (by omega) fun i hi=>?_
      unfold fW
      rw[←ei]
      by_cases q:i=162*k+(9*s+c)
      ·rw[if_pos q,if_pos q]
      ·rw[if_neg q,if_neg q,if_neg q]
     have hsum:sumW k s c (w+1)=sumW k s c w+bhd k s c (w+1):=rfl
     have hbig:sumW k s c w≤100000000∧bhd k s c (w+1)≤100000000:=by
      have:=sumW_le k s c w
      have:=bhd_le k s c (w+1)
      omega
     have hb:cs[(k+1)*162+(s-(w+1))*9+rsN k c (w+1)]?=some (.int .i64 ((bhd k s c (w+1):Nat):Int)):=by
      have hr:=rsN_lt (k:=k) (c:=c) (w:=w+1) hc
      have:=hrow.2 (9*(s-(w+1))+rsN k c (w+1)) (by omega)
      rw[show(k+1)*162+(s-(w+1))*9+rsN k c (w+1)=162*(k+1)+(9*(s-(w+1))+rsN k c (w+1)) by omega,this]
      unfold bhd
      rw[if_neg (by omega)]
     have hpr:=pt_rs (k:=k) (c:=c) (w:=w+1) hk8 hc (by omega)
     have hp9:ptN k (w+1)≤9:=by unfold ptN;split<;>(try split)<;>omega
     have hr9:=rsN_lt (k:=k) (c:=c) (w:=w+1) hc
     have ek1:(((k:Nat):Int)+1).toNat=k+1:=by omega
     have es1:(((s:Nat):Int)-((w+1:Nat):Int)).toNat=s-(w+1):=by omega
     have ec1:(((c:Nat):Int)+9-((ptN k (w+1):Nat):Int)).tmod 9=((rsN k c (w+1):Nat):Int):=by
      rw[show((c:Nat):Int)+9-((ptN k (w+1):Nat):Int)=((c+9-ptN k (w+1):Nat):Int) by omega,←hpr];rfl
     have hsw:w+1≤s:=by omega
     have hw6:w+1≤6:=by omega
     replace hsum:False∨_:=.inr hsum
     replace hnew:False∨_:=.inr hnew
     replace hpr:False∨_:=.inr hpr
     clear ei hfv ht hw hM
     (try simp only[ctlB])
     refine xHUb ?_
     refine wpH_callKa rfl (((partP hk8 hw6).sub subT).mono ?_)
     rintro r K ⟨rfl,rfl⟩
     refine⟨?_,?_⟩
     ·simp only[List.take_succ_cons,List.take_zero,List.all_cons,List.all_nil,Bool.and_true,Bool.and_eq_true]
      exact kept_at rfl hg hg hsame
     have hput:((sumW k s c w:Nat):Int)+((bhd k s c (w+1):Nat):Int)=((sumW k s c (w+1):Nat):Int):=by rw[hsum.resolve_left id];omega
     have hset:=set_last2 H (some Z) (some cs) (some (cs.set (k*162+s*9+c) (.int .i64 ((sumW k s c (w+1):Nat):Int))))
     generalize rsN k c (w+1)=q at *
     (try simp only[ctlB])
     repeat' ((first|refine xSUb ?_|refine xOUb rfl ?_);(try simp only[ctlB]))
     exact⟨_,by trivial,hnew.resolve_left id,exZTd (by first|rfl|(simp only[Int.natCast_add,Int.natCast_one];rfl)|simp only[Int.natCast_add,Int.natCast_one])⟩
    clear ht hM
    rintro S H' ⟨cs,rfl,ht,z,rfl⟩
    rw[sumW_min]at ht
    (try simp only[ctlB])
    repeat' ((first|refine xSUb ?_|refine xOUb rfl ?_);(try simp only[ctlB]))
    exact⟨cs,rfl,ht.congr (fW_end hk8 hs hc),exZTd (by first|rfl|(simp only[Int.natCast_add,Int.natCast_one];rfl)|simp only[Int.natCast_add,Int.natCast_one])⟩
   clear ht
   rintro S H' ⟨cs,rfl,ht,z,rfl⟩
   (try simp only[ctlB])
   repeat' ((first|refine xSUb ?_|refine xOUb rfl ?_);(try simp only[ctlB]))
   exact⟨cs,rfl,by rw[show 9*(s+1)=9*s+9 by omega];exact ht,exZTd (by first|rfl|(simp only[Int.natCast_add,Int.natCast_one];rfl)|simp only[Int.natCast_add,Int.natCast_one])⟩
  clear ht
  rintro S H' ⟨cs,rfl,ht,z,rfl⟩
  (try simp only[ctlB])
  repeat' ((first|refine xSUb ?_|refine xOUb rfl ?_);(try simp only[ctlB]))
  exact⟨by omega,cs,by trivial,.inr ⟨by omega,by rw[hkm.resolve_left id];exact ht⟩,exZTd (by rw[hkm.resolve_left id];rfl)⟩
 clear hz
 rintro S H' ⟨-,cs,rfl,ht,z,rfl⟩
 have hfin:=tab_end (ht.resolve_left (fun h=>by omega)).2
 subst hfin
 have hone:=oneTab
 have hlen:=lenTab
 have g1:=get_last1 H Z (some tabV)
 have g2:=get_last2 H (some Z) tabV
 have ht1:List.take 1458 tabV=tabV:=by rw[←hlen,List.take_length]
 have hd1:List.drop 1458 Z=[]:=List.drop_eq_nil_of_le (by omega)
 have s1:=set_last1 H (some Z) (some tabV) (some tabV)
 have g3:=get_last1 H tabV (some tabV)
 clear ht
 generalize tabV=T at *
 (try simp only[ctlB])
 repeat' ((first|refine xSUb ?_|refine xOUb rfl ?_);(try simp only[ctlB]))
 refine xRUb ?_
 exact⟨rfl,Ext.app _ _⟩
end Go.Proofs.YtgiojnobcjnibaaGreatDoor
