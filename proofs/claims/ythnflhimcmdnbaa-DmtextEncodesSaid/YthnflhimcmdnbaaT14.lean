/- Dmtext: rounds of the search; what they reach. Dmtext: the options of a state. Dmtext: settle. Dmtext: newSearch. -/
import Derived.Test.YthnflhimcmdnbaaT12
import Derived.Test.YthnflhimcmdnbaaT13
set_option linter.unusedVariables false
set_option linter.unusedSimpArgs false
set_option linter.unusedSectionVars false
namespace Go.Proofs.Ythnflhimcmdnbaa
open Go.Abs
set_option linter.unusedSimpArgs false
set_option linter.unusedVariables false
set_option maxRecDepth 20000
def relax(i:Nat)(s:List Nat×Bool)(o:Opt):List Nat×Bool:=if totS s.1 o<s.1.getD i 0 then(s.1.set i (totS s.1 o),true) else s
def relaxL(i:Nat)(L:List Opt)(s:List Nat×Bool):List Nat×Bool:=L.foldl (relax i) s
def round(L:Nat→List Opt)(a:Nat):Nat→List Nat×Bool→List Nat×Bool
 | 0,s=>s
 | k+1,s=>relaxL (a*19+k) (L k) (round L a k s)
inductive Stl (L:Nat→List Opt) (a:Nat):List Nat→List Nat→Prop
 | done {c c':List Nat}:round L a 19 (c,false)=(c',false)→Stl L a c c'
 | more {c d c':List Nat}:round L a 19 (c,false)=(d,true)→Stl L a d c'→Stl L a c c'
theorem getD_set{l:List Nat}{i j x:Nat}(h:i<l.length):(l.set i x).getD j 0=if j=i then x else l.getD j 0:=by
 simp only[List.getD_eq_getElem?_getD,List.getElem?_set]
 by_cases e:i=j
 ·subst e;simp[h]
 ·rw[if_neg e,if_neg (fun e'=>e e'.symm)]
theorem getD_ge{l:List Nat}{i:Nat}(h:l.length≤i):l.getD i 0=0:=by simp[List.getD_eq_getElem?_getD,h]
theorem sum_set:∀{l:List Nat} {i x:Nat},i<l.length→(l.set i x).sum+l.getD i 0=l.sum+x
 | y::l,0,x,_=>by simp only[List.set_cons_zero,List.sum_cons,List.getD_cons_zero];omega
 | y::l,i+1,x,h=>by
  have:=sum_set (l:=l) (i:=i) (x:=x) (by simpa using h)
  simp only[List.set_cons_succ,List.sum_cons,List.getD_cons_succ];omega
structure Stp (i:Nat)(s t:List Nat×Bool):Prop where
 len:t.1.length=s.1.length
 le:∀j,t.1.getD j 0≤s.1.getD j 0
 ne:∀j,j≠i→t.1.getD j 0=s.1.getD j 0
 sum:t.1.sum≤s.1.sum
 fl:t.2=true→s.2=true∨t.1.sum<s.1.sum
 fl2:s.2=true→t.2=true
theorem relax_stp(i:Nat)(s:List Nat×Bool)(o:Opt):Stp i s (relax i s o):=by
 unfold relax
 split
 ·rename_i h
  have hi:i<s.1.length:=by
   refine Decidable.byContradiction fun hn=>?_
   rw[getD_ge (by omega)]at h;omega
  have hs:=sum_set (x:=totS s.1 o) hi
  refine⟨by simp,fun j=>?_,fun j hj=>?_,by simp only;omega,fun _=>.inr (by simp only;omega),fun _=>rfl⟩
  ·simp only[getD_set hi];split
   ·rename_i e;subst e;omega
   ·exact Nat.le_refl _
  ·simp only[getD_set hi,if_neg hj]
 ·exact⟨rfl,fun _=>Nat.le_refl _,fun _ _=>rfl,Nat.le_refl _,fun h=>.inl h,fun h=>h⟩
theorem relaxL_ind{P:List Nat×Bool→Prop}{i:Nat}:∀{L:List Opt} {s:List Nat×Bool},P s→(∀t o,o ∈ L→P t→P (relax i t o))→P (relaxL i L s)
 | [],s,h,_=>h
 | o::L,s,h,hs=>relaxL_ind (L:=L) (s:=relax i s o) (hs s o (by simp) h) fun t o' h'=>hs t o' (List.mem_cons_of_mem _ h')
theorem relaxL_app{i:Nat}{A B:List Opt}{s:List Nat×Bool}:relaxL i (A++B) s=relaxL i B (relaxL i A s):=by unfold relaxL;rw[List.foldl_append]
structure Row (a:Nat)(s t:List Nat×Bool):Prop where
 len:t.1.length=s.1.length
 le:∀j,t.1.getD j 0≤s.1.getD j 0
 ne:∀j,(j<a*19∨a*19+19≤j)→t.1.getD j 0=s.1.getD j 0
 sum:t.1.sum≤s.1.sum
 fl:t.2=true→s.2=true∨t.1.sum<s.1.sum
 fl2:s.2=true→t.2=true
theorem Row.refl(a:Nat)(s:List Nat×Bool):Row a s s:=⟨rfl,fun _=>Nat.le_refl _,fun _ _=>rfl,Nat.le_refl _,fun h=>.inl h,fun h=>h⟩
theorem Row.step{a k:Nat}{s t u:List Nat×Bool}(h:Row a s t)(hk:k<19)(h2:Stp (a*19+k) t u):Row a s u:=by
 refine⟨h2.len.trans h.len,fun j=>Nat.le_trans (h2.le j) (h.le j),fun j hj=>(h2.ne j (by omega)).trans (h.ne j hj),Nat.le_trans h2.sum h.sum,fun e=>?_,fun e=>h2.fl2 (h.fl2 e)⟩
 rcases h2.fl e with e|e
 ·rcases h.fl e with e|e
  ·exact .inl e
  ·exact .inr (Nat.lt_of_le_of_lt h2.sum e)
 ·exact .inr (Nat.lt_of_lt_of_le e h.sum)
theorem row_relaxL{a k:Nat}{L:List Opt}{s t:List Nat×Bool}(h:Row a s t)(hk:k<19):Row a s (relaxL (a*19+k) L t):=
 relaxL_ind (P:=Row a s) h fun t o _ h=>h.step hk (relax_stp _ _ _)
theorem row_round{L:Nat→List Opt}{a:Nat}{s:List Nat×Bool}:∀k,k≤19→Row a s (round L a k s)
 | 0,_=>Row.refl a s
 | k+1,h=>row_relaxL (row_round k (by omega)) (by omega)
structure Fix (L:Nat→List Opt)(a:Nat)(c c':List Nat):Prop where
 len:c'.length=c.length
 le:∀j,c'.getD j 0≤c.getD j 0
 ne:∀j,(j<a*19∨a*19+19≤j)→c'.getD j 0=c.getD j 0
 fix:∀k,k<19→∀o ∈ L k,c'.getD (a*19+k) 0≤totS c' o
 got:∀k,k<19→c'.getD (a*19+k) 0=c.getD (a*19+k) 0∨∃o ∈ L k,c'.getD (a*19+k) 0=totS c' o
theorem totS_le{c c':List Nat}(h:∀j,c'.getD j 0≤c.getD j 0)(o:Opt):totS c' o≤totS c o:=by
 unfold totS;have:=h (o.nx*19+o.md);omega
theorem relax_same{i:Nat}{s:List Nat×Bool}{o:Opt}(h:(relax i s o).2=false):relax i s o=s∧¬ totS s.1 o<s.1.getD i 0:=by
 unfold relax at h ⊢
 split
 ·rename_i h1;rw[if_pos h1]at h;cases h
 ·rename_i h1;exact⟨rfl,h1⟩
theorem relaxL_same{i:Nat}:∀{L:List Opt} {s:List Nat×Bool},(relaxL i L s).2=false→relaxL i L s=s∧∀o ∈ L,¬ totS s.1 o<s.1.getD i 0
 | [],s,h=>⟨rfl,by simp⟩
 | o::L,s,h=>by
  have h0:(relaxL i (o::L) s)=relaxL i L (relax i s o):=rfl
  rw[h0]at h ⊢
  obtain⟨e,f⟩:=relaxL_same (L:=L) h
  rw[e]at h
  obtain⟨e1,f1⟩:=relax_same h
  rw[e,e1]
  rw[e1]at f
  refine⟨rfl,fun o' ho'=>?_⟩
  rcases List.mem_cons.1 ho' with rfl|ho'
  ·exact f1
  ·exact f o' ho'
theorem round_same{L:Nat→List Opt}{a:Nat}{s:List Nat×Bool}:∀k,(round L a k s).2=false→round L a k s=s∧∀j,j<k→∀o ∈ L j,¬ totS s.1 o<s.1.getD (a*19+j) 0
 | 0,h=>⟨rfl,fun j hj=>by omega⟩
 | k+1,h=>by
  have h0:round L a (k+1) s=relaxL (a*19+k) (L k) (round L a k s):=rfl
  rw[h0]at h ⊢
  obtain⟨e,f⟩:=relaxL_same h
  rw[e]at h
  obtain⟨e1,f1⟩:=round_same k h
  rw[e,e1]
  rw[e1]at f
  refine⟨rfl,fun j hj=>?_⟩
  by_cases hjk:j=k
  ·subst hjk;exact f
  ·exact f1 j (by omega)
def Got(L:Nat→List Opt)(a:Nat)(c d:List Nat):Prop:=∀k,k<19→d.getD (a*19+k) 0=c.getD (a*19+k) 0∨∃o ∈ L k,totS d o≤d.getD (a*19+k) 0
theorem got_relax{L:Nat→List Opt}{a k:Nat}{c:List Nat}{s:List Nat×Bool}{o:Opt}(ho:o ∈ L k)(h:Got L a c s.1):Got L a c (relax (a*19+k) s o).1:=by
 have hst:=relax_stp (a*19+k) s o
 intro j hj
 by_cases hjk:j=k
 ·subst hjk
  by_cases hlt:totS s.1 o<s.1.getD (a*19+j) 0
  ·right
   refine⟨o,ho,Nat.le_trans (totS_le hst.le o) ?_⟩
   have hi:a*19+j<s.1.length:=by
    refine Decidable.byContradiction fun hn=>?_
    rw[getD_ge (by omega)]at hlt;omega
   unfold relax
   rw[if_pos hlt]
   simp only[getD_set hi,if_true]
   exact Nat.le_refl _
  ·unfold relax
   rw[if_neg hlt]
   exact h j hj
 ·have e:=hst.ne (a*19+j) (by omega)
  rcases h j hj with h|⟨o',ho',h⟩
  ·left;rw[e];exact h
  ·right;exact⟨o',ho',by rw[e];exact Nat.le_trans (totS_le hst.le o') h⟩
theorem got_round{L:Nat→List Opt}{a:Nat}{c:List Nat}{s:List Nat×Bool}(h:Got L a c s.1):∀k,Got L a c (round L a k s).1
 | 0=>h
 | k+1=>relaxL_ind (P:=fun t=>Got L a c t.1) (got_round h k) fun t o ho ht=>got_relax ho ht
theorem stl_fix0{L:Nat→List Opt}{a:Nat}{c d e:List Nat}(h:Stl L a d e)(hr:Row a (c,true) (d,true))(hg:Got L a c d):Fix L a c e:=by
 induction h with
 | @done d e h=>
  have h2:(round L a 19 (d,false)).2=false:=by rw[h]
  obtain⟨e1,f⟩:=round_same 19 h2
  rw[h]at e1
  obtain rfl:e=d:=congrArg Prod.fst e1
  refine⟨hr.len,hr.le,hr.ne,fun k hk o ho=>Nat.not_lt.1 (f k hk o ho),fun k hk=>?_⟩
  rcases hg k hk with h|⟨o,ho,h⟩
  ·exact .inl h
  ·exact .inr ⟨o,ho,Nat.le_antisymm (Nat.not_lt.1 (f k hk o ho)) h⟩
 | @more d d2 e h _ ih=>
  have h1:=row_round (L:=L) (a:=a) (s:=(d,false)) 19 (Nat.le_refl _)
  rw[h]at h1
  have hg2:Got L a c d2:=by
   have:=got_round (L:=L) (s:=(d,false)) hg 19
   rw[h]at this
   exact this
  refine ih ⟨h1.len.trans hr.len,fun j=>Nat.le_trans (h1.le j) (hr.le j),fun j hj=>(h1.ne j hj).trans (hr.ne j hj),Nat.le_trans h1.sum hr.sum,fun _=>.inl rfl,fun _=>rfl⟩ hg2
theorem stl_fix{L:Nat→List Opt}{a:Nat}{c e:List Nat}(h:Stl L a c e):Fix L a c e:=stl_fix0 h (Row.refl a _) fun _ _=>.inl rfl
def rowI(n a:Nat)(c:List Nat):Nat→List Nat
 | 0=>c
 | k+1=>(rowI n a c k).set (a*19+k) 1073741824
def rowS(n a:Nat)(c:List Nat):List Nat:=if a=n then(rowI n a c 19).set (a*19) 0 else rowI n a c 19
inductive New (p:List UInt8):Nat→List Nat→Prop
 | start:New p (p.length+1) (List.replicate ((p.length+1)*19) 0)
 | step {a:Nat} {c c':List Nat}:New p (a+1) c→Stl (optS p (rowS p.length a c) a) a (rowS p.length a c) c'→New p a c'
theorem new_le{p:List UInt8}{a:Nat}{c:List Nat}(h:New p a c):a≤p.length+1:=by
 induction h with
 | start=>exact Nat.le_refl _
 | step _ _ ih=>omega
end Go.Proofs.Ythnflhimcmdnbaa
namespace Go.Proofs.Ythnflhimcmdnbaa
open Go.Abs
set_option linter.unusedSimpArgs false
set_option linter.unusedVariables false
set_option maxRecDepth 20000
section
variable {lo:Nat}{H:Heap}{sb cb:Nat}{v:Value}{p:List UInt8}{cs:List Nat}
theorem optP{a st:Nat}(hs:SrH H sb cb v p cs)(ha:a≤p.length)(hst:st<19)(hlo:lo≤H.length):Ev cp lo 38 [ptr sb,encN a,encN st] H (fun r H'=>Ext H H'∧∃b,H.length≤b∧OwnG lo 7 H' r b (cat optC (optS p cs a st))):=by
 have hi:=hs.hi
 refine st38 ?_;unfold bd38 cf38;simp only[kB,ctlB]
 repeat' ((first|refine xSDg ?_|refine xODg rfl ?_);(try simp only[ctlB]))
 unfold optS
 by_cases h0:st=0
 ·have hd:decide ((st:Int)=0)=true:=decide_eq_true (by omega)
  rw[if_pos h0]
  replace h0:st≤0:=by omega
  refine xCDg (fun h=>?_) (fun h=>?_)
  ·clear h hd
   (try simp only[ctlB])
   refine xHDg ?_
   refine wpH_call0 (ascP hs ha hlo) ?_
   rintro r H1 ⟨hx,b,hb,ho⟩
   (try simp only[ctlB])
   repeat' ((first|refine xSDg ?_|refine xODg rfl ?_);(try simp only[ctlB]))
   refine xRDg ?_
   exact⟨hx,b,hb,ho⟩
  ·exfalso;simp at h
 have hd:decide ((st:Int)=0)=false:=decide_eq_false (by omega)
 rw[if_neg h0]
 refine xCDg (fun h=>?_) (fun h=>?_)
 ·exfalso;simp at h
 clear h hd
 (try simp only[ctlB])
 by_cases h9:st<9
 ·have hd:decide ((st:Int)<9)=true:=decide_eq_true (by omega)
  have e:(st:Int)-1=((st-1:Nat):Int):=by omega
  rw[if_pos h9]
  refine xCDg (fun h=>?_) (fun h=>?_)
  ·clear h hd
   (try simp only[ctlB])
   refine xHDg ?_
   refine wpH_call0 (tripP (a:=a) (st:=st-1) (first:=1) (lower:=false) hs ha (by omega) (by omega) hlo) ?_
   rintro r H1 ⟨hx,b,hb,ho⟩
   (try simp only[ctlB])
   repeat' ((first|refine xSDg ?_|refine xODg rfl ?_);(try simp only[ctlB]))
   refine xRDg ?_
   exact⟨hx,b,hb,ho⟩
  ·exfalso;simp at h
 have hd:decide ((st:Int)<9)=false:=decide_eq_false (by omega)
 rw[if_neg h9]
 refine xCDg (fun h=>?_) (fun h=>?_)
 ·exfalso;simp at h
 clear h hd
 (try simp only[ctlB])
 by_cases h17:st<17
 ·have hd:decide ((st:Int)<17)=true:=decide_eq_true (by omega)
  have e:(st:Int)-9=((st-9:Nat):Int):=by omega
  rw[if_pos h17]
  refine xCDg (fun h=>?_) (fun h=>?_)
  ·clear h hd
   (try simp only[ctlB])
   refine xHDg ?_
   refine wpH_call0 (tripP (a:=a) (st:=st-9) (first:=9) (lower:=true) hs ha (by omega) (by omega) hlo) ?_
   rintro r H1 ⟨hx,b,hb,ho⟩
   (try simp only[ctlB])
   repeat' ((first|refine xSDg ?_|refine xODg rfl ?_);(try simp only[ctlB]))
   refine xRDg ?_
   exact⟨hx,b,hb,ho⟩
  ·exfalso;simp at h
 have hd:decide ((st:Int)<17)=false:=decide_eq_false (by omega)
 rw[if_neg h17]
 refine xCDg (fun h=>?_) (fun h=>?_)
 ·exfalso;simp at h
 clear h hd
 (try simp only[ctlB])
 by_cases hx17:st=17
 ·have hd:decide ((st:Int)=17)=true:=decide_eq_true (by omega)
  rw[if_pos hx17]
  replace hx17:st≤17:=by omega
  refine xCDg (fun h=>?_) (fun h=>?_)
  ·clear h hd
   (try simp only[ctlB])
   refine xHDg ?_
   refine wpH_call0 (x12P' hs ha hlo) ?_
   rintro r H1 ⟨hx,b,hb,ho⟩
   (try simp only[ctlB])
   repeat' ((first|refine xSDg ?_|refine xODg rfl ?_);(try simp only[ctlB]))
   refine xRDg ?_
   exact⟨hx,b,hb,ho⟩
  ·exfalso;simp at h
 have hd:decide ((st:Int)=17)=false:=decide_eq_false (by omega)
 rw[if_neg hx17]
 refine xCDg (fun h=>?_) (fun h=>?_)
 ·exfalso;simp at h
 clear h hd
 (try simp only[ctlB])
 refine xHDg ?_
 refine wpH_call0 (ediP hs ha hlo) ?_
 rintro r H1 ⟨hx,b,hb,ho⟩
 (try simp only[ctlB])
 repeat' ((first|refine xSDg ?_|refine xODg rfl ?_);(try simp only[ctlB]))
 refine xRDg ?_
 exact⟨hx,b,hb,ho⟩
end
end Go.Proofs.Ythnflhimcmdnbaa
namespace Go.Proofs.Ythnflhimcmdnbaa
open Go.Abs
set_option linter.unusedSimpArgs false
set_option linter.unusedVariables false
set_option maxRecDepth 20000
theorem optS_len(p:List UInt8)(cs:List Nat)(a st:Nat):(optS p cs a st).length≤200:=by
 unfold optS
 split
 ·unfold ascS
  have:=pairO_len p a
  split<;>simp[lats_len]<;>omega
 ·split
  ·have:=tri1_len (p:=p) (first:=1) (lower:=false) (L:=movS p a ((st-1)%4) (decide (4≤st-1)) false)
   have:=movS_len p a ((st-1)%4) (decide (4≤st-1)) false
   simp only[tripS,List.length_cons];omega
  ·split
   ·have:=tri1_len (p:=p) (first:=9) (lower:=true) (L:=movS p a ((st-9)%4) (decide (4≤st-9)) true)
    have:=movS_len p a ((st-9)%4) (decide (4≤st-9)) true
    simp only[tripS,List.length_cons];omega
   ·split
    ·unfold x12O;split<;>simp
    ·have:=ediR_len (p:=p) (at':=a) 4 0 0
     unfold ediS;omega
structure SrW (A H:Heap)(sb cb:Nat)(v:Value)(p:List UInt8)(cs:List Nat):Prop where
 s:SrH H sb cb v p cs
 pl:SlU A v p
 ext:Ext A H
 cbA:A.length≤cb
 ne:sb≠cb
theorem SrW.mono{A H H':Heap}{sb cb:Nat}{v:Value}{p:List UInt8}{cs:List Nat}(h:SrW A H sb cb v p cs)(e:Ext H H'):SrW A H' sb cb v p cs:=
 ⟨h.s.ext e,h.pl,h.ext.trans e,h.cbA,h.ne⟩
theorem SrW.set{A H H':Heap}{sb cb i x:Nat}{v:Value}{p:List UInt8}{cs:List Nat}(h:SrW A H sb cb v p cs)(hk:Keep cb H H')(hg:H'.get cb=some (uN (cs.set i x)))(hx:x≤1073741824):SrW A H' sb cb v p (cs.set i x):=by
 have hA:=hk.ext h.ext h.cbA
 refine⟨⟨hk.get h.s.g h.ne,hg,h.pl.mono hA,by simpa using h.s.len,h.s.hi,fun j=>?_⟩,h.pl,hA,h.cbA,h.ne⟩
 by_cases hi:i<cs.length
 ·rw[getD_set hi];split
  ·exact hx
  ·exact h.s.le j
 ·rw[List.set_eq_of_length_le (by omega)];exact h.s.le j
section
variable {lo:Nat}{A H:Heap}{sb cb:Nat}{v:Value}{p:List UInt8}{cs:List Nat}
theorem stlP{a:Nat}(hs:SrW A H sb cb v p cs)(ha:a≤p.length)(hlo:lo≤A.length):Ev cp lo 25 [ptr sb,encN a] H (fun _ H'=>Keep cb H H'∧∃cs',Stl (optS p cs a) a cs cs'∧SrW A H' sb cb v p cs'):=by
 have hi:=hs.s.hi
 have hcbl:=Heap.get_lt hs.s.c
 have hsbl:=Heap.get_lt hs.s.g
 have hA:=hs.cbA
 refine st25 ?_;unfold bd25 cf25;simp only[kB,ctlB]
 repeat' ((first|refine xSDg ?_|refine xODg rfl ?_);(try simp only[ctlB]))
 have hxb:Ext H (H++[some (List.replicate 19 (Value.slice none 0 0))]):=Ext.app _ _
 have hgb:(H++[some (List.replicate 19 (Value.slice none 0 0))]).get H.length=some (List.replicate 19 (Value.slice none 0 0)):=get_app0
 have hlc:(H++[some (List.replicate 19 (Value.slice none 0 0))]).length≤H.length+1∧H.length+1≤(H++[some (List.replicate 19 (Value.slice none 0 0))]).length:=by simp
 change wpS cp lo _ _ _ (H++[some (List.replicate 19 (Value.slice none 0 0))])
 have hX0:(List.replicate 19 (Value.slice none 0 0)).length≤19∧19≤(List.replicate 19 (Value.slice none 0 0)).length:=by simp
 generalize List.replicate 19 (Value.slice none 0 0)=X0 at *
 generalize H++[some X0]=H0 at hxb hgb hlc
 obtain⟨OL,hOL⟩:∃OL,False∨optS p cs a=OL:=⟨_,.inr rfl⟩
 refine aw_midXB (fun S' H'=>(SrW A H' sb cb v p cs∧Ext H H')∧(∃X:List Value,(X.length≤19∧19≤X.length)∧H'.get H.length=some X∧∀i,i<19→∃w b,X[i]?=some w∧H.length<b∧OwnG lo 7 H' w b (cat optC (optS p cs a i)))∧∃(z:Nat→Value),S'=[ptr sb,encN a,ptr H.length,z 3,z 4,z 5,z 6,z 7,z 8,z 9,z 10,z 11,z 12,z 13,z 14,z 15,z 16,z 17,z 18]) ?_ ?_
 ·refine aw_for (fun k S H'=>Ext H H'∧(∃X:List Value,(X.length≤19∧19≤X.length)∧H'.get H.length=some X∧∀i,i<k→∃w b,X[i]?=some w∧H.length<b∧OwnG lo 7 H' w b (cat optC (optS p cs a i)))∧∃(z:Nat→Value),S=[ptr sb,encN a,ptr H.length,z 3,z 4,z 5,z 6,z 7,z 8,.int .i64 (k:Nat),z 10,z 11,z 12,z 13,z 14,z 15,z 16,z 17,z 18]) 19 ⟨hxb,⟨X0,hX0,hgb,fun i hi=>absurd hi (by omega)⟩,exZDe rfl⟩ ?_ ?_ ?_
  ·rintro k S H' hk ⟨h1,h2,z,rfl⟩
   exact⟨decide ((k:Int)<19),by simp(disch:=first|omega|(simp only[lenB];omega))only[evB,xBDc,Nat.reduceAdd,Nat.reduceBEq,Int.reduceToNat, *],by simp;omega⟩
  ·rintro k S H1 hk ⟨hx1,⟨X,hX,hgX,hXi⟩,z,rfl⟩
   have hl1:=hx1.1
   have hXl:=Heap.get_lt hgX
   replace hXi:False∨_:=.inr hXi
   (try simp only[ctlB])
   repeat' ((first|refine xSDg ?_|refine xODg rfl ?_);(try simp only[ctlB]))
   refine xHDg ?_
   refine wpH_call0 (optP (lo:=lo) (st:=k) (hs.s.ext hx1) ha hk (by omega)) ?_
   rintro r H2 ⟨hx2,b,hb,ho⟩
   obtain⟨ad,rfl⟩:=ho.len (by omega) optC_len
   have hgX2:=hx2.get hgX
   have hl2:=hx2.1
   obtain⟨q,hq⟩:∃q,False∨(optS p cs a k).length=q:=⟨_,.inr rfl⟩
   rw[hq.resolve_left id]at ho ⊢
   (try simp only[ctlB])
   repeat' ((first|refine xSDg ?_|refine xODg rfl ?_);(try simp only[ctlB]))
   have hk2:Keep H.length H2 (List.set H2 H.length (some (X.set k (Value.slice ad q q)))):=keepSet
   refine⟨hk2.ext (hx1.trans hx2) (Nat.le_refl _),⟨_,by simp;omega,get_set_self (by omega),fun i hi=>?_⟩,exZDe (by first|rfl|(simp only[Int.natCast_add,Int.natCast_one];rfl)|simp only[Int.natCast_add,Int.natCast_one])⟩
   by_cases hik:i=k
   ·subst hik
    exact⟨_,b,List.getElem?_set_self (by omega),by omega,ho.keep hk2 (by omega)⟩
   ·obtain⟨w,b',h1,h2,h3⟩:=hXi.resolve_left id i (by omega)
    exact⟨w,b',by rw[List.getElem?_set_ne (by omega)];exact h1,h2,(h3.mono hx2).keep hk2 (by omega)⟩
  ·rintro S H1 ⟨hx1,hX,z,rfl⟩
   (try simp only[ctlB])
   exact⟨⟨hs.mono hx1,hx1⟩,hX,exZDe rfl⟩
 ·rintro S H1 ⟨⟨hs1,hx1⟩,⟨X,hX,hgX,hXi⟩,z,rfl⟩
  have hok:∀k,∀o ∈ optS p cs a k,o.ok p.length a:=fun k=>optS_ok ha
  have hLl:False∨∀k,(optS p cs a k).length≤200:=.inr (optS_len p cs a)
  generalize optS p cs a=L at hXi hok hLl ⊢
  clear hOL
  obtain⟨F,hF⟩:∃F:Heap→Prop,∀H',F H'↔(H'.get H.length=some X∧∀i,i<19→∃w b,X[i]?=some w∧H.length<b∧OwnG lo 7 H' w b (cat optC (L i))):=⟨_,fun _=>Iff.rfl⟩
  have hFk:∀{H' H''},F H'→Keep cb H' H''→F H'':=by
   intro H' H'' h1 h2
   obtain⟨g1,g2⟩:=(hF _).1 h1
   refine(hF _).2 ⟨h2.get g1 (by omega),fun i hi=>?_⟩
   obtain⟨w,b,e1,e2,e3⟩:=g2 i hi
   exact⟨w,b,e1,e2,e3.keep h2 (by omega)⟩
  have hF1:F H1:=(hF _).2 ⟨hgX,hXi⟩
  clear hgX hXi
  (try simp only[ctlB])
  repeat' ((first|refine xSDg ?_|refine xODg rfl ?_);(try simp only[ctlB]))
  refine aw_loop' (fun m S H'=>∃(c1:List Nat) (t:Bool),((Keep cb H H'∧SrW A H' sb cb v p c1)∧F H')∧((t=true∧m=c1.sum+1∧∀c',Stl L a c1 c'→Stl L a cs c')∨(t=false∧m=0∧Stl L a cs c1))∧∃(z:Nat→Value),S=[ptr sb,encN a,ptr H.length,z 3,.bool t,z 5,z 6,z 7,z 8,z 9,z 10,z 11,z 12,z 13,z 14,z 15,z 16,z 17,z 18]) (cs.sum+1) ⟨cs,true,⟨⟨Ext.keep hx1,hs1⟩,hF1⟩,.inl ⟨rfl,rfl,fun _ h=>h⟩,exZDe rfl⟩ ?_
  clear hF1 hs1 hx1
  rintro m S H2 ⟨c1,t,⟨⟨hk2,hs2⟩,hF2⟩,hcase,z,rfl⟩
  rcases hcase with ⟨rfl,hm,hst⟩|⟨rfl,hm,hst⟩
  ·replace hst:False∨_:=.inr hst
   replace hm:m≤c1.sum+1∧c1.sum+1≤m:=by omega
   obtain⟨hgX,hXi⟩:=(hF _).1 hF2
   replace hXi:False∨_:=.inr hXi
   (try simp only[ctlB])
   refine xCDg (fun h=>?_) (fun h=>?_)
   ·clear h
    (try simp only[ctlB])
    repeat' ((first|refine xSDg ?_|refine xODg rfl ?_);(try simp only[ctlB]))
    rw[List.take_of_length_le hX.1]
    refine aw_for (fun k S H'=>((Keep cb H H'∧SrW A H' sb cb v p (round L a k (c1,false)).1)∧F H')∧∃(z:Nat→Value),S=[ptr sb,encN a,ptr H.length,z 3,.bool (round L a k (c1,false)).2,z 5,z 6,z 7,z 8,z 9,z 10,z 11,.agg X.toArray,.int .i64 (k:Nat),z 14,z 15,z 16,z 17,z 18]) 19 ⟨⟨⟨hk2,hs2⟩,hF2⟩,exZDe rfl⟩ ?_ ?_ ?_
    ·rintro k S H' hk ⟨h1,z,rfl⟩
     exact⟨decide ((k:Int)<19),by simp(disch:=first|omega|(simp only[lenB];omega))only[evB,xBDc,Nat.reduceAdd,Nat.reduceBEq,Int.reduceToNat, *],by simp;omega⟩
    ·rintro k S H3 hk ⟨⟨⟨hk3,hs3⟩,hF3⟩,z,rfl⟩
     clear hF2 hk2 hs2 hgX hXi
     obtain⟨hgX,hXi⟩:=(hF _).1 hF3
     obtain⟨w,b,hw,hb,ho⟩:=hXi k hk
     obtain⟨aw,rfl⟩:=ho.len (by omega) optC_len
     clear hXi
     have hr:round L a (k+1) (c1,false)=relaxL (a*19+k) (L k) (round L a k (c1,false)):=rfl
     have hokk:=hok k
     rw[hr]
     clear hr
     generalize round L a k (c1,false)=s at hs3 ⊢
     have hKl:=hLl.resolve_left id k
     generalize hLK:L k=K at ho hokk hw hKl ⊢
     clear hLK hgX
     (try simp only[ctlB])
     repeat' ((first|refine xSDg ?_|refine xODg rfl ?_);(try simp only[ctlB]))
     refine aw_for (fun j S H'=>((Keep cb H H'∧SrW A H' sb cb v p (relaxL (a*19+k) (K.take j) s).1)∧Keep cb H3 H')∧∃(z:Nat→Value),S=[ptr sb,encN a,ptr H.length,z 3,.bool (relaxL (a*19+k) (K.take j) s).2,encN k,z 6,z 7,z 8,z 9,z 10,z 11,.agg X.toArray,.int .i64 (k:Nat),.slice aw K.length K.length,.int .i64 (K.length:Nat),.int .i64 (j:Nat),z 17,z 18]) K.length ⟨⟨⟨hk3,hs3⟩,Ext.keep (Ext.refl _)⟩,exZDe rfl⟩ ?_ ?_ ?_
     ·rintro j S H' hj ⟨h1,z,rfl⟩
      exact⟨decide ((j:Int)<(K.length:Nat)),by simp(disch:=first|omega|(simp only[lenB];omega))only[evB,xBDc,Nat.reduceAdd,Nat.reduceBEq,Int.reduceToNat, *],by simp⟩
     ·rintro j S H4 hj ⟨⟨⟨hk4,hs4⟩,hk34⟩,z,rfl⟩
      clear hs3
      have ho4:=ho.keep hk34 (by omega)
      obtain⟨p4,o4,X4,i4,g4,l4,e4⟩:=ho4.at (by omega) optC_len hj
      have hoo:=hokk _ (List.getElem_mem hj)
      have hr:relaxL (a*19+k) (K.take (j+1)) s=relax (a*19+k) (relaxL (a*19+k) (K.take j) s) K[j]:=by
       rw[List.take_succ_eq_append_getElem hj,relaxL_app];rfl
      rw[hr]
      clear hr hokk ho4
      generalize relaxL (a*19+k) (K.take j) s=s4 at hs4 ⊢
      generalize K[j]=o at e4 hoo ⊢
      have hl4:=hk4.len
      (try simp only[ctlB])
      repeat' ((first|refine xSDg ?_|refine xODg rfl ?_);(try simp only[ctlB]))
      change wpS cp lo _ _ _ (H4++[some (optC o)])
      have hxc:Ext H4 (H4++[some (optC o)]):=Ext.app _ _
      have hgo:(H4++[some (optC o)]).get H4.length=some (optC o):=get_app0
      generalize H4++[some (optC o)]=H5 at hxc hgo
      clear i4 g4 l4 e4
      have hs5:=hs4.mono hxc
      have o1:=hoo.sz
      have o2:=hoo.run
      have o3:=hoo.nx
      have o4:=hoo.md
      clear hoo
      refine xHDg ?_
      refine wpH_call0 (totN (lo:=lo) (o:=o) hs5.s (by omega)) ?_
      rintro r H6 ⟨hx6,rfl⟩
      have hs6:=hs5.mono hx6
      have hk46:Keep cb H4 H6:=Ext.keep (hxc.trans hx6)
      have hl6:=hk46.len
      have hrel:relax (a*19+k) s4 o=if totS s4.1 o<s4.1.getD (a*19+k) 0 then(s4.1.set (a*19+k) (totS s4.1 o),true) else s4:=rfl
      replace hrel:False∨_:=.inr hrel
      clear hgo hs5 hs4
      obtain⟨ss,bb⟩:=s4
      simp only at hs6 hrel ⊢
      generalize totS ss o=x at hrel
      have hgs:=hs6.s.g
      have hgc:=hs6.s.c
      have hlen:=hs6.s.len
      have hidx:a*19+k<ss.length:=by omega
      have hat:=uN_at hidx
      have hle:=hs6.s.le (a*19+k)
      have hul:(uN ss).length≤ss.length∧ss.length≤(uN ss).length:=by simp
      have hset:False∨∀y,(uN ss).set (a*19+k) (encN y)=uN (ss.set (a*19+k) y):=.inr (fun y=>by simp[uN,List.map_set])
      generalize ss.getD (a*19+k) 0=y at hat hrel hle
      generalize uN ss=Y at hgc hat hul hset
      replace hlen:ss.length≤(p.length+1)*19∧(p.length+1)*19≤ss.length:=by omega
      (try simp only[ctlB])
      repeat' ((first|refine xSDg ?_|refine xODg rfl ?_);(try simp only[ctlB]))
      by_cases hxy:x<y
      ·have hd:decide ((x:Int)<(y:Nat))=true:=decide_eq_true (by omega)
       refine xCDg (fun h=>?_) (fun h=>?_)
       ·clear h hd
        (try simp only[ctlB])
        repeat' ((first|refine xSDg ?_|refine xODg rfl ?_);(try simp only[ctlB]))
        have e:=hrel.resolve_left id
        rw[if_pos hxy]at e
        rw[e]
        clear e
        have e2:=hset.resolve_left id x
        have hk7:Keep cb H6 (List.set H6 cb (some (Y.set (a*19+k) (Value.int .i64 (x:Nat))))):=keepSet
        have hg7:Heap.get (List.set H6 cb (some (Y.set (a*19+k) (Value.int .i64 (x:Nat))))) cb=some (Y.set (a*19+k) (Value.int .i64 (x:Nat))):=get_set_self (by omega)
        refine⟨⟨⟨keepTrans hk4 (.inl rfl) (keepTrans hk46 (.inl rfl) hk7),hs6.set hk7 (by rw[hg7];exact congrArg some e2) (by omega)⟩,keepTrans hk34 (.inl rfl) (keepTrans hk46 (.inl rfl) hk7)⟩,exZDe (by first|rfl|(simp only[Int.natCast_add,Int.natCast_one];rfl)|simp only[Int.natCast_add,Int.natCast_one])⟩
       ·exfalso;simp at h
      ·have hd:decide ((x:Int)<(y:Nat))=false:=decide_eq_false (by omega)
       have e:=hrel.resolve_left id
       rw[if_neg hxy]at e
       rw[e]
       clear e
       refine xCDg (fun h=>?_) (fun h=>?_)
       ·exfalso;simp at h
       ·clear h hd
        (try simp only[ctlB])
        repeat' ((first|refine xSDg ?_|refine xODg rfl ?_);(try simp only[ctlB]))
        exact⟨⟨⟨keepTrans hk4 (.inl rfl) hk46,hs6⟩,keepTrans hk34 (.inl rfl) hk46⟩,exZDe (by first|rfl|(simp only[Int.natCast_add,Int.natCast_one];rfl)|simp only[Int.natCast_add,Int.natCast_one])⟩
     ·rintro S H4 ⟨⟨⟨hk4,hs4⟩,hk34⟩,z,rfl⟩
      rw[List.take_length]at hs4 ⊢
      (try simp only[ctlB])
      repeat' ((first|refine xSDg ?_|refine xODg rfl ?_);(try simp only[ctlB]))
      exact⟨⟨⟨hk4,hs4⟩,hFk hF3 hk34⟩,exZDe (by first|rfl|(simp only[Int.natCast_add,Int.natCast_one];rfl)|simp only[Int.natCast_add,Int.natCast_one])⟩
    ·rintro S H3 ⟨⟨⟨hk3,hs3⟩,hF3⟩,z,rfl⟩
     have hrow:=row_round (L:=L) (a:=a) (s:=(c1,false)) 19 (Nat.le_refl _)
     obtain⟨d,t,hdt⟩:∃d t,round L a 19 (c1,false)=(d,t):=⟨_,_,rfl⟩
     rw[hdt]at hs3 hrow ⊢
     clear hgX hXi hk2 hs2 hF2
     (try simp only[ctlB])
     refine⟨if t then d.sum+1 else 0,?_,d,t,⟨⟨hk3,hs3⟩,hF3⟩,?_,exZDe rfl⟩
     ·cases t with
      | true=>
       rcases hrow.fl rfl with h|h
       ·cases h
       ·simp only at h ⊢;simp;omega
      | false=>simp;omega
     ·cases t with
      | true=>exact .inl ⟨rfl,rfl,fun c' h=>hst.resolve_left id c' (.more hdt h)⟩
      | false=>exact .inr ⟨rfl,rfl,hst.resolve_left id _ (.done hdt)⟩
   ·cases h
  ·replace hst:False∨_:=.inr hst
   replace hm:m≤0:=by omega
   (try simp only[ctlB])
   refine xCDg (fun h=>?_) (fun h=>?_)
   ·cases h
   ·(try simp only[ctlB])
    refine body_normal (by simp only[cf25];simp(disch:=first|omega|(simp only[lenB];omega))only[evB,xBDc,Nat.reduceAdd,Nat.reduceBEq,Int.reduceToNat, *];rfl) ?_
    exact⟨hk2,c1,hst.resolve_left id,hs2⟩
end
end Go.Proofs.Ythnflhimcmdnbaa
namespace Go.Proofs.Ythnflhimcmdnbaa
open Go.Abs
set_option linter.unusedSimpArgs false
set_option linter.unusedVariables false
set_option maxRecDepth 20000
theorem zeros19(n:Nat):zeros (List.replicate 19 (Value.int .i64 0)) n=uN (List.replicate (n*19) 0):=by
 have:zeros (List.replicate 19 (Value.int .i64 0)) n=List.replicate (n*19) (Value.int .i64 0):=by
  unfold zeros
  induction n with
  | zero=>rfl
  | succ n ih=>rw[List.replicate_succ,List.flatten_cons,ih,List.replicate_append_replicate,Nat.succ_mul,Nat.add_comm]
 rw[this,uN,List.map_replicate];rfl
section
variable {lo:Nat}{H:Heap}{v:Value}{p:List UInt8}
theorem newP(hp:SlU H v p)(hl:p.length≤4096)(hlo:lo≤H.length):Ev cp lo 17 [v] H (fun r H'=>Ext H H'∧∃sb cb cs,r=ptr sb∧New p 0 cs∧SrW H H' sb cb v p cs):=by
 obtain⟨ad,c,ev⟩:=hp.len
 subst ev
 have htn:((p.length:Int)+1).toNat=p.length+1:=by omega
 refine st17 ?_;unfold bd17 cf17;simp only[kB,ctlB]
 repeat' ((first|refine xSDg ?_|refine xODg rfl ?_);(try simp only[ctlB]))
 clear htn
 generalize hC:uN (List.replicate ((p.length+1)*19) 0)=C
 have hz:=(zeros19 (p.length+1)).trans hC
 change zeros [Value.int .i64 0,Value.int .i64 0,Value.int .i64 0,Value.int .i64 0,Value.int .i64 0,Value.int .i64 0,Value.int .i64 0,Value.int .i64 0,Value.int .i64 0,Value.int .i64 0,Value.int .i64 0,Value.int .i64 0,Value.int .i64 0,Value.int .i64 0,Value.int .i64 0,Value.int .i64 0,Value.int .i64 0,Value.int .i64 0,Value.int .i64 0] (p.length+1)=C at hz
 rw[hz]
 clear hz
 have hxb:Ext H (H++[some C,some [Value.slice ad p.length c,.slice (some ⟨H.length,0,none⟩) (p.length+1) (p.length+1)]]):=Ext.app _ _
 have hg0:(H++[some C,some [Value.slice ad p.length c,.slice (some ⟨H.length,0,none⟩) (p.length+1) (p.length+1)]]).get H.length=some C:=get_app0
 have hg1:(H++[some C,some [Value.slice ad p.length c,.slice (some ⟨H.length,0,none⟩) (p.length+1) (p.length+1)]]).get (H.length+1)=some [Value.slice ad p.length c,.slice (some ⟨H.length,0,none⟩) (p.length+1) (p.length+1)]:=by rw[get_appS];rfl
 generalize H++[some C,some [Value.slice ad p.length c,.slice (some ⟨H.length,0,none⟩) (p.length+1) (p.length+1)]]=H0 at hxb hg0 hg1
 have hs0:SrW H H0 (H.length+1) H.length (.slice ad p.length c) p (List.replicate ((p.length+1)*19) 0):=by
  refine⟨⟨hg1,by rw[hC];exact hg0,hp.mono hxb,by simp,hl,fun i=>?_⟩,hp,hxb,Nat.le_refl _,by omega⟩
  simp only[List.getD_eq_getElem?_getD,List.getElem?_replicate]
  split<;>simp
 clear hg0 hg1 hC
 have hn0:New p (p.length+1) (List.replicate ((p.length+1)*19) 0):=.start
 generalize List.replicate ((p.length+1)*19) 0=cs at hs0 hn0
 refine aw_for (fun k S H'=>(∃cs,New p (p.length+1-k) cs∧SrW H H' (H.length+1) H.length (.slice ad p.length c) p cs)∧∃(z:Nat→Value),S=[.slice ad p.length c,z 1,ptr (H.length+1),.int .i64 ((p.length:Int)-(k:Nat)),z 4,z 5,z 6,z 7,z 8]) (p.length+1) ⟨⟨cs,hn0,hs0⟩,exZDe (by simp)⟩ ?_ ?_ ?_
 ·rintro k S H' hk ⟨h1,z,rfl⟩
  exact⟨decide ((0:Int)≤(p.length:Int)-(k:Nat)),by simp(disch:=first|omega|(simp only[lenB];omega))only[evB,xBDc,Nat.reduceAdd,Nat.reduceBEq,Int.reduceToNat, *],by simp;omega⟩
 ·rintro k S H1 hk ⟨⟨cs,hn,hs⟩,z,rfl⟩
  obtain⟨a,ha,hak⟩:∃a:Nat,(p.length:Int)-(k:Nat)=(a:Nat)∧p.length+1-k=a+1∧p.length+1-(k+1)=a∧a≤p.length:=⟨p.length-k,by omega,by omega⟩
  have ha2:(p.length:Int)-((k+1:Nat):Nat)=(a:Nat)-1:=by omega
  rw[hak.2.1,ha2,ha]
  rw[hak.1]at hn
  obtain⟨_,_,hap⟩:=hak
  clear ha2 ha hs0 hn0
  replace hn:False∨_:=.inr hn
  have hx1:=hs.ext
  have hl1:=hx1.1
  (try simp only[ctlB])
  repeat' ((first|refine xSDg ?_|refine xODg rfl ?_);(try simp only[ctlB]))
  refine aw_for (fun j S H'=>SrW H H' (H.length+1) H.length (.slice ad p.length c) p (rowI p.length a cs j)∧∃(z:Nat→Value),S=[.slice ad p.length c,z 1,ptr (H.length+1),encN a,z 4,z 5,z 6,z 7,.int .i64 (j:Nat)]) 19 ⟨hs,exZDe rfl⟩ ?_ ?_ ?_
  ·rintro j S H' hj ⟨h1,z,rfl⟩
   exact⟨decide ((j:Int)<19),by simp(disch:=first|omega|(simp only[lenB];omega))only[evB,xBDc,Nat.reduceAdd,Nat.reduceBEq,Int.reduceToNat, *],by simp;omega⟩
  ·rintro j S H2 hj ⟨hs2,z,rfl⟩
   have hr:rowI p.length a cs (j+1)=(rowI p.length a cs j).set (a*19+j) 1073741824:=rfl
   rw[hr]
   clear hr
   generalize rowI p.length a cs j=ss at hs2 ⊢
   have hgs:=hs2.s.g
   have hgc:=hs2.s.c
   have hll:=Heap.get_lt hgc
   have hlen:=hs2.s.len
   have hidx:a*19+j<ss.length:=by omega
   have hul:(uN ss).length≤ss.length∧ss.length≤(uN ss).length:=by simp
   have hset:False∨(uN ss).set (a*19+j) (encN 1073741824)=uN (ss.set (a*19+j) 1073741824):=.inr (by simp[uN,List.map_set])
   generalize uN ss=Y at hgc hul hset
   replace hlen:ss.length≤(p.length+1)*19∧(p.length+1)*19≤ss.length:=by omega
   (try simp only[ctlB])
   repeat' ((first|refine xSDg ?_|refine xODg rfl ?_);(try simp only[ctlB]))
   have hk7:Keep H.length H2 (List.set H2 H.length (some (Y.set (a*19+j) (Value.int .i64 1073741824)))):=keepSet
   have hg7:Heap.get (List.set H2 H.length (some (Y.set (a*19+j) (Value.int .i64 1073741824)))) H.length=some (Y.set (a*19+j) (Value.int .i64 1073741824)):=get_set_self (by omega)
   exact⟨hs2.set hk7 (by rw[hg7];exact congrArg some (hset.resolve_left id)) (by omega),exZDe (by first|rfl|(simp only[Int.natCast_add,Int.natCast_one];rfl)|simp only[Int.natCast_add,Int.natCast_one])⟩
  ·rintro S H2 ⟨hs2,z,rfl⟩
   (try simp only[ctlB])
   refine aw_midX (fun S' H'=>SrW H H' (H.length+1) H.length (.slice ad p.length c) p (rowS p.length a cs)∧∃(z:Nat→Value),S'=[.slice ad p.length c,z 1,ptr (H.length+1),encN a,z 4,z 5,z 6,z 7,z 8]) ?_ ?_
   ·unfold rowS
    generalize rowI p.length a cs 19=ss at hs2 ⊢
    by_cases han:a=p.length
    ·have hd:decide ((a:Int)=(p.length:Nat))=true:=decide_eq_true (by omega)
     rw[if_pos han]
     replace han:a≤p.length∧p.length≤a:=by omega
     have hgs:=hs2.s.g
     have hgc:=hs2.s.c
     have hll:=Heap.get_lt hgc
     have hlen:=hs2.s.len
     have hidx:a*19<ss.length:=by omega
     have hul:(uN ss).length≤ss.length∧ss.length≤(uN ss).length:=by simp
     have hset:False∨(uN ss).set (a*19) (encN 0)=uN (ss.set (a*19) 0):=.inr (by simp[uN,List.map_set])
     generalize uN ss=Y at hgc hul hset
     replace hlen:ss.length≤(p.length+1)*19∧(p.length+1)*19≤ss.length:=by omega
     refine xCDg (fun h=>?_) (fun h=>?_)
     ·clear h hd
      (try simp only[ctlB])
      repeat' ((first|refine xSDg ?_|refine xODg rfl ?_);(try simp only[ctlB]))
      have hk7:Keep H.length H2 (List.set H2 H.length (some (Y.set (a*19) (Value.int .i64 0)))):=keepSet
      have hg7:Heap.get (List.set H2 H.length (some (Y.set (a*19) (Value.int .i64 0)))) H.length=some (Y.set (a*19) (Value.int .i64 0)):=get_set_self (by omega)
      exact⟨hs2.set hk7 (by rw[hg7];exact congrArg some (hset.resolve_left id)) (by omega),exZDe (by first|rfl|(simp only[Int.natCast_add,Int.natCast_one];rfl)|simp only[Int.natCast_add,Int.natCast_one])⟩
     ·exfalso;simp at h
    ·have hd:decide ((a:Int)=(p.length:Nat))=false:=decide_eq_false (by omega)
     rw[if_neg han]
     refine xCDg (fun h=>?_) (fun h=>?_)
     ·exfalso;simp at h
     ·(try simp only[ctlB])
      exact⟨hs2,exZDe (by first|rfl|(simp only[Int.natCast_add,Int.natCast_one];rfl)|simp only[Int.natCast_add,Int.natCast_one])⟩
   ·rintro S' H3 ⟨hs3,z,rfl⟩
    generalize hR:rowS p.length a cs=cs3 at hs3
    replace hR:False∨_:=.inr hR
    (try simp only[ctlB])
    refine xHDg ?_
    refine wpH_call0 (stlP (lo:=lo) hs3 hap hlo) ?_
    rintro r H4 ⟨hk4,cs4,hst,hs4⟩
    replace hst:False∨_:=.inr hst
    (try simp only[ctlB])
    repeat' ((first|refine xSDg ?_|refine xODg rfl ?_);(try simp only[ctlB]))
    refine⟨⟨cs4,.step (hn.resolve_left id) ?_,hs4⟩,exZDe (by first|rfl|(simp only[Int.natCast_add,Int.natCast_one];rfl)|simp only[Int.natCast_add,Int.natCast_one])⟩
    rw[hR.resolve_left id]
    exact hst.resolve_left id
 ·rintro S H1 ⟨⟨cs,hn,hs⟩,z,rfl⟩
  rw[Nat.sub_self]at hn
  have hx:=hs.ext
  replace hn:False∨_:=.inr hn
  (try simp only[ctlB])
  repeat' ((first|refine xSDg ?_|refine xODg rfl ?_);(try simp only[ctlB]))
  refine xRDg ?_
  exact⟨hx,_,_,cs,rfl,hn.resolve_left id,hs⟩
end
end Go.Proofs.Ythnflhimcmdnbaa
