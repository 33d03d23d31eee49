/- Lemmas. -/
import Derived.Test.YtgiojnobcjnibaaGreatDoorP13
import Derived.Test.YtgiojnobcjnibaaGreatDoorP14
set_option linter.unusedVariables false
set_option linter.unusedSimpArgs false
set_option linter.unusedSectionVars false
namespace Go.Proofs.YtgiojnobcjnibaaGreatDoor
open Go.Abs
set_option maxRecDepth 20000
def wsL(l:List Int)(i:Nat):Nat:=(l.getD i 0).toNat
def Okw(l:List Int)(k:Nat):Prop:=∀i,i<k→1≤l.getD i 0∧l.getD i 0≤6
instance (l:List Int)(k:Nat):Decidable (Okw l k):=by unfold Okw;infer_instance
def valV(l:List Int):Value:=
 if l.length≠8 then tup3 0 0 7
 else if ¬ Okw l 8 then tup3 0 0 3
 else if pS (wsL l) 8≠17∨clu (wsL l)%3≠0 then tup3 0 0 18
 else if 928<nA (wsL l) (clu (wsL l)) 8 then tup3 0 0 18
 else tup3 (clu (wsL l)) (nA (wsL l) (clu (wsL l)) 8) 0
theorem okw_at{l:List Int}{i:Nat}(h:Okw l 8)(hi:i<8):l.getD i 0=((wsL l i:Nat):Int)∧1≤wsL l i∧wsL l i≤6:=by
 have:=h i hi
 unfold wsL;omega
theorem pS_small{l:List Int}(h:Okw l 8):∀k,k≤8→pS (wsL l) k≤6*k
 | 0,_=>Nat.le_refl _
 | k+1,hk=>by
  have h1:=pS_small h k (by omega)
  have h2:=(okw_at h (i:=k) (by omega)).2.2
  simp only[pS];omega
theorem valueP{lo b:Nat}{H:Heap}{v:Value}{l:List Int}(hg:H.get b=some tabV)(hv:SlI H v l):Ev cp lo 27 [.pointer (some ⟨b,0,none⟩),v] H (fun r H'=>H'=H∧r=valV l):=by
 have hv0:=hv
 obtain⟨ad,c0,rfl⟩:=hv.len
 unfold valV
 refine st27 ?_;unfold bd27 cf27;simp only[kB,ctlB]
 repeat' ((first|refine xSTf ?_|refine xOTf rfl ?_);(try simp only[ctlB]))
 refine xCTf (fun h=>?_) (fun h=>?_)
 ·have e:l.length≠8:=by simp at h;omega
  clear h
  rw[if_pos e]
  (try simp only[ctlB])
  repeat' ((first|refine xSTf ?_|refine xOTf rfl ?_);(try simp only[ctlB]))
  refine xRTf ?_
  exact⟨rfl,rfl⟩
 have e:l.length=8:=by simp at h;omega
 clear h
 rw[if_neg (fun h=>h e)]
 obtain⟨xb,xo,xsp,xc,xs,e1,g1,f1,l1⟩:=hv0.els 0 (by omega)
 cases e1
 rw[e]at f1
 rw[e]
 clear hv hv0
 (try simp only[ctlB])
 repeat' ((first|refine xSTf ?_|refine xOTf rfl ?_);(try simp only[ctlB]))
 refine aw_for (fun k S H'=>H=H'∧Okw l k∧∃(z:Nat→Value),S=[.pointer (some ⟨b,0,none⟩),.slice (some ⟨xb,xo,xsp⟩) 8 c0,z 2,.int .i64 0,.int .i64 0,.int .i64 ((pS (wsL l) k:Nat):Int),z 6,z 7,z 8,z 9,z 10,.slice (some ⟨xb,xo,xsp⟩) 8 c0,.int .i64 (8:Nat),.int .i64 (k:Nat),z 14,z 15,z 16,z 17,z 18,z 19]) 8 ?_ ?_ ?_ ?_
 ·exact⟨rfl,fun i hi=>by omega,exZTd rfl⟩
 ·rintro k S H' hk ⟨rfl,hok,z,rfl⟩
  exact⟨_,xETf,by simp;omega⟩
 ·rintro k S H' hk ⟨rfl,hok,z,rfl⟩
  have hat:=f1 k hk
  have hps:pS (wsL l) k≤6*k:=by
   clear f1
   have:∀j,j≤k→pS (wsL l) j≤6*j:=by
    intro j
    induction j with
    | zero=>intro _;exact Nat.le_refl _
    | succ j ih=>
     intro hj
     have h1:=ih (by omega)
     have h2:=(hok j (by omega)).2
     simp only[pS]
     have h3:wsL l j≤6:=by unfold wsL;omega
     omega
   exact this k (Nat.le_refl _)
  have hsucc:pS (wsL l) (k+1)=pS (wsL l) k+wsL l k:=rfl
  have hwd:wsL l k=(l.getD k 0).toNat:=rfl
  clear f1
  obtain⟨x,hx⟩:∃x,x=l.getD k 0:=⟨_,rfl⟩
  rw[←hx]at hat hwd
  generalize wsL l k=w at *
  obtain⟨s1,hs1⟩:∃x,x=pS (wsL l) (k+1):=⟨_,rfl⟩
  rw[←hs1]at hsucc
  obtain⟨s0,hs0⟩:∃x,x=pS (wsL l) k:=⟨_,rfl⟩
  rw[←hs0]at hsucc hps ⊢
  replace hsucc:False∨_:=.inr hsucc
  replace hwd:False∨_:=.inr hwd
  replace hx:False∨_:=.inr hx
  replace hs1:False∨_:=.inr hs1
  replace hs0:False∨_:=.inr hs0
  replace hok:False∨_:=.inr hok
  (try simp only[ctlB])
  repeat' ((first|refine xSTf ?_|refine xOTf rfl ?_);(try simp only[ctlB]))
  refine xCTf (fun h=>?_) (fun h=>?_)
  ·have hbad:¬ Okw l 8:=fun q=>by
    have:=q k hk
    rw[←hx.resolve_left id]at this
    simp only[Bool.or_eq_true,decide_eq_true_eq]at h
    omega
   clear h
   (try simp only[ctlB])
   repeat' ((first|refine xSTf ?_|refine xOTf rfl ?_);(try simp only[ctlB]))
   refine xRTf ?_
   rw[if_pos hbad]
   exact⟨rfl,rfl⟩
  have hx16:1≤x∧x≤6:=by
   simp only[Bool.or_eq_false_iff,decide_eq_false_iff_not]at h
   omega
  clear h
  have hsx:((s0:Nat):Int)+x=((s1:Nat):Int):=by
   rw[hsucc.resolve_left id]
   have:=hwd.resolve_left id
   omega
  obtain⟨x1,x6⟩:=hx16
  (try simp only[ctlB])
  repeat' ((first|refine xSTf ?_|refine xOTf rfl ?_);(try simp only[ctlB]))
  refine⟨by trivial,fun i hi=>?_,exZTd (by rw[←hs1.resolve_left id];first|rfl|(simp only[Int.natCast_add,Int.natCast_one];rfl))⟩
  by_cases q:i=k
  ·subst q;rw[←hx.resolve_left id];exact⟨x1,x6⟩
  ·exact hok.resolve_left id i (by omega)
 rintro S H' ⟨rfl,hok,z,rfl⟩
 rw[if_neg (fun q=>q hok)]
 have hel:=fun i (hi:i<8)=>okw_at hok hi
 have hsm:=pS_small hok 8 (Nat.le_refl _)
 have hf:∀i,i<8→xs[xo+i]?=some (.int .i64 ((wsL l i:Nat):Int)):=fun i hi=>by rw[f1 i hi,(hel i hi).1]
 have h16:∀i,i<8→1≤wsL l i∧wsL l i≤6:=fun i hi=>(hel i hi).2
 clear f1 hel hok
 generalize wsL l=f at *
 have hc9:clu f<9:=Nat.mod_lt _ (by decide)
 have f0:xs[xo]?=some (.int .i64 ((f 0:Nat):Int)):=hf 0 (by omega)
 have f2:=hf 2 (by omega)
 have f4:=hf 4 (by omega)
 have f6:=hf 6 (by omega)
 have b0:=h16 0 (by omega)
 have b2:=h16 2 (by omega)
 have b4:=h16 4 (by omega)
 have b6:=h16 6 (by omega)
 have hcl:(((f 0:Nat):Int)-(f 2:Nat)+(f 4:Nat)-(f 6:Nat)+18).tmod 9=((clu f:Nat):Int):=by
  rw[show((f 0:Nat):Int)-(f 2:Nat)+(f 4:Nat)-(f 6:Nat)+18=((f 0+18-f 2+f 4-f 6:Nat):Int) by omega];rfl
 have hc3:((clu f:Nat):Int).tmod 3=((clu f%3:Nat):Int):=rfl
 have hfh:False∨∀i,i<8→xs[xo+i]?=some (.int .i64 ((f i:Nat):Int)):=.inr hf
 clear hf
 replace h16:False∨∀i,i<8→1≤f i∧f i≤6:=.inr h16
 (try simp only[ctlB])
 repeat' ((first|refine xSTf ?_|refine xOTf rfl ?_);(try simp only[ctlB]))
 refine xCTf (fun h=>?_) (fun h=>?_)
 ·have hbad:pS f 8≠17∨clu f%3≠0:=by
   simp only[Bool.or_eq_true,Bool.not_eq_true',decide_eq_true_eq,decide_eq_false_iff_not]at h
   omega
  clear h
  rw[if_pos hbad]
  (try simp only[ctlB])
  repeat' ((first|refine xSTf ?_|refine xOTf rfl ?_);(try simp only[ctlB]))
  refine xRTf ?_
  exact⟨rfl,rfl⟩
 have hgood:¬ (pS f 8≠17∨clu f%3≠0):=by
  simp only[Bool.or_eq_false_iff,Bool.not_eq_false',decide_eq_true_eq,decide_eq_false_iff_not]at h
  omega
 clear h
 rw[if_neg hgood]
 have h17:pS f 8=17:=by omega
 have hnl:=nA_le f (clu f) (fun k hk=>(h16.resolve_left id k hk).2)
 have hcA:=cA_lt f hc9
 rw[h17]
 clear hgood hcl hc3 f0 f2 f4 f6 b0 b2 b4 b6 hsm
 replace h17:False∨_:=.inr h17
 generalize clu f=c at *
 (try simp only[ctlB])
 repeat' ((first|refine xSTf ?_|refine xOTf rfl ?_);(try simp only[ctlB]))
 refine aw_for (fun k S H'=>H=H'∧∃(z:Nat→Value),S=[.pointer (some ⟨b,0,none⟩),z 1,.int .i64 (c:Nat),.int .i64 ((nA f c k:Nat):Int),.int .i64 0,.int .i64 ((17-pS f k:Nat):Int),z 6,.int .i64 ((cA f c k:Nat):Int),z 8,z 9,z 10,z 11,z 12,z 13,.slice (some ⟨xb,xo,xsp⟩) 8 c0,.int .i64 (8:Nat),.int .i64 (k:Nat),z 17,z 18,z 19]) 8 ?_ ?_ ?_ ?_
 ·exact⟨rfl,exZTd rfl⟩
 ·rintro k S H' hk ⟨rfl,z,rfl⟩
  exact⟨_,xETf,by simp;omega⟩
 ·rintro k S H' hk ⟨rfl,z,rfl⟩
  have hat:=hfh.resolve_left id k hk
  obtain⟨w1,w6⟩:=h16.resolve_left id k hk
  have hn1:=hnl k (by omega)
  have hn2:=hnl (k+1) (by omega)
  have hck:=hcA k
  have hsle:pS f k+f k≤17:=by
   have:=pS_le (ws:=f) (a:=k+1) (b:=8) (by omega)
   have e1:pS f (k+1)=pS f k+f k:=rfl
   rw[h17.resolve_left id]at this;omega
  have ecA:cA f c (k+1)=rsN k (cA f c k) (f k):=rfl
  have enA:nA f c (k+1)=nA f c k+sumW k (17-pS f k) (cA f c k) (f k-1):=rfl
  have epS:((17-pS f (k+1):Nat):Int)=((17-pS f k:Nat):Int)-((f k:Nat):Int):=by
   have e1:pS f (k+1)=pS f k+f k:=rfl
   omega
  rw[ecA,enA,epS]
  rw[enA]at hn2
  clear hnl hcA hfh h16 h17 ecA enA epS
  generalize cA f c k=d at *
  generalize hs:17-pS f k=s at *
  have hs18:s<18:=by omega
  have hws:f k≤s:=by omega
  have hrow:=rowTab (k:=k+1) (by omega)
  generalize nA f c k=n at *
  generalize f k=w at *
  clear hs hsle
  (try simp only[ctlB])
  repeat' ((first|refine xSTf ?_|refine xOTf rfl ?_);(try simp only[ctlB]))
  refine aw_for (fun m S H'=>H=H'∧∃(z:Nat→Value),S=[.pointer (some ⟨b,0,none⟩),z 1,.int .i64 (c:Nat),.int .i64 ((n+sumW k s d m:Nat):Int),.int .i64 0,.int .i64 (s:Nat),z 6,.int .i64 (d:Nat),.int .i64 (k:Nat),.int .i64 (w:Nat),.int .i64 ((m+1:Nat):Int),z 11,z 12,z 13,.slice (some ⟨xb,xo,xsp⟩) 8 c0,.int .i64 (8:Nat),.int .i64 (k:Nat),z 17,z 18,z 19]) (w-1) ?_ ?_ ?_ ?_
  ·exact⟨rfl,exZTd rfl⟩
  ·rintro m S H' hm ⟨rfl,z,rfl⟩
   exact⟨_,xETf,by simp;omega⟩
  ·rintro m S H' hm ⟨rfl,z,rfl⟩
   have hb:=(behindP (lo:=lo) hg hrow hk hs18 hck (show m+1≤6 by omega) (by omega)).sub subT
   have hbl:=bhd_le k s d (m+1)
   have hsl:=sumW_le k s d m
   have hst:sumW k s d (m+1)=sumW k s d m+bhd k s d (m+1):=rfl
   have hsum:((n+sumW k s d m:Nat):Int)+((bhd k s d (m+1):Nat):Int)=((n+sumW k s d (m+1):Nat):Int):=by omega
   obtain⟨y,hy⟩:∃y,y=n+sumW k s d (m+1):=⟨_,rfl⟩
   rw[←hy]at hsum
   have hyb:y≤100000000:=by omega
   have hub:n+sumW k s d m≤100000000:=by omega
   clear hst hsl
   replace hy:False∨_:=.inr hy
   generalize n+sumW k s d m=u at *
   generalize bhd k s d (m+1)=bv at *
   (try simp only[ctlB])
   repeat' ((first|refine xSTf ?_|refine xOTf rfl ?_);(try simp only[ctlB]))
   refine xHTf ?_
   refine wpH_call0 hb ?_
   rintro r K ⟨rfl,rfl⟩
   (try simp only[ctlB])
   repeat' ((first|refine xSTf ?_|refine xOTf rfl ?_);(try simp only[ctlB]))
   exact⟨by trivial,exZTd (by rw[←hy.resolve_left id];first|rfl|(simp only[Int.natCast_add,Int.natCast_one];rfl))⟩
  rintro S H' ⟨rfl,z,rfl⟩
  have hr:=(restP (lo:=lo) (H:=H) (k:=k) hk hck (show w≤6 by omega)).sub subT
  (try simp only[ctlB])
  repeat' ((first|refine xSTf ?_|refine xOTf rfl ?_);(try simp only[ctlB]))
  refine xHTf ?_
  refine wpH_call0 hr ?_
  rintro r K ⟨rfl,rfl⟩
  (try simp only[ctlB])
  repeat' ((first|refine xSTf ?_|refine xOTf rfl ?_);(try simp only[ctlB]))
  exact⟨by trivial,exZTd (by first|rfl|(simp only[Int.natCast_add,Int.natCast_one];rfl)|simp only[Int.natCast_add,Int.natCast_one])⟩
 rintro S H' ⟨rfl,z,rfl⟩
 have hn8:=hnl 8 (by omega)
 clear hnl hcA hfh h16 h17
 generalize nA f c 8=n at *
 (try simp only[ctlB])
 repeat' ((first|refine xSTf ?_|refine xOTf rfl ?_);(try simp only[ctlB]))
 refine xCTf (fun h=>?_) (fun h=>?_)
 ·have hbad:928<n:=by simp at h;omega
  clear h
  rw[if_pos hbad]
  (try simp only[ctlB])
  repeat' ((first|refine xSTf ?_|refine xOTf rfl ?_);(try simp only[ctlB]))
  refine xRTf ?_
  exact⟨rfl,rfl⟩
 have hgood:¬ 928<n:=by simp at h;omega
 clear h
 rw[if_neg hgood]
 (try simp only[ctlB])
 repeat' ((first|refine xSTf ?_|refine xOTf rfl ?_);(try simp only[ctlB]))
 refine xRTf ?_
 exact⟨rfl,rfl⟩
theorem ValueP{lo:Nat}{H:Heap}{v:Value}{l:List Int}(hlo:lo≤H.length)(hv:SlI H v l):Ev cp lo 12 [v] H (fun r H'=>Ext H H'∧r=valV l):=by
 have ht:=(tallyP hlo).sub subT
 have hx:=Ext.push H (some tabV)
 have hvp:=valueP (lo:=lo) (b:=H.length) (H:=H++[some tabV]) (get_push_self _ _) (hv.mono hx)
 have hV:∃a b e:Nat,valV l=tup3 a b e:=by
  unfold valV
  split
  ·exact⟨_,_,_,rfl⟩
  split
  ·exact⟨_,_,_,rfl⟩
  split
  ·exact⟨_,_,_,rfl⟩
  split
  ·exact⟨_,_,_,rfl⟩
  ·exact⟨_,_,_,rfl⟩
 obtain⟨a,b,e,hV⟩:=hV
 rw[hV]at hvp ⊢
 unfold tup3 at *
 generalize tabV=T at *
 clear hv hV
 refine st12 ?_;unfold bd12 cf12;simp only[kB,ctlB]
 repeat' ((first|refine xSTf ?_|refine xOTf rfl ?_);(try simp only[ctlB]))
 refine xHTf ?_
 refine wpH_call0 ht ?_
 rintro r K ⟨rfl,rfl⟩
 (try simp only[ctlB])
 refine xHTf ?_
 refine wpH_call0 hvp ?_
 rintro r K ⟨rfl,rfl⟩
 (try simp only[ctlB])
 repeat' ((first|refine xSTf ?_|refine xOTf rfl ?_);(try simp only[ctlB]))
 refine xRTf ?_
 exact⟨hx,rfl⟩
def rA(f:Nat→Nat):Nat→Nat
 | 0=>0
 | k+1=>(rA f k+ptN k (f k))%9
theorem rA8{f:Nat→Nat}(h:∀k,k<8→1≤f k∧f k≤6):rA f 8=clu f:=by
 have a0:=h 0 (by omega)
 have a2:=h 2 (by omega)
 have a4:=h 4 (by omega)
 have a6:=h 6 (by omega)
 simp[rA,ptN,clu]
 omega
theorem rA_lt(f:Nat→Nat):∀k,rA f k<9
 | 0=>by show 0<9;decide
 | k+1=>Nat.mod_lt _ (by decide)
theorem numberP{lo:Nat}{H:Heap}{v:Value}{l:List Int}(hlo:lo≤H.length)(hv:SlI H v l)(hl:l.length=8)(hok:Okw l 8) :
  Ev cp lo 28 [.agg ⟨tabV⟩,v] H (fun r H'=>Ext H H'∧r=if pS (wsL l) 8=17 then .tuple #[.int .i64 ((clu (wsL l):Nat):Int),.int .i64 ((nA (wsL l) (clu (wsL l)) 8:Nat):Int)] else .tuple #[.int .i64 (-1),.int .i64 0]):=by
 have hct:=cells_tab
 have hlt:=lenTab
 have htat:=fun {k s d w:Nat} (hk:k<8) (hs:s<18) (hd:d<9) (hw:w≤s)=>tab_at hk hs hd hw
 generalize tabV=T at *
 have hv0:=hv.mono (Ext.push H (some T))
 obtain⟨xb,xo,xsp,xc,xs,e1,g1,f1,l1⟩:=hv0.els 0 (by omega)
 subst e1
 have hel:=fun i (hi:i<8)=>okw_at hok hi
 have hsm:=pS_small hok
 have hf:∀i,i<8→xs[xo+i]?=some (.int .i64 ((wsL l i:Nat):Int)):=fun i hi=>by rw[f1 i (by omega),(hel i hi).1]
 have h16:∀i,i<8→1≤wsL l i∧wsL l i≤6:=fun i hi=>(hel i hi).2
 rw[hl]
 clear f1 hel hok hv0 hv hl l1
 generalize wsL l=f at *
 have hr8:=rA8 h16
 have hrl:=rA_lt f
 have hc9:clu f<9:=Nat.mod_lt _ (by decide)
 replace hf:False∨∀i,i<8→xs[xo+i]?=some (.int .i64 ((f i:Nat):Int)):=.inr hf
 replace h16:False∨∀i,i<8→1≤f i∧f i≤6:=.inr h16
 replace hr8:False∨_:=.inr hr8
 refine st28 ?_;unfold bd28 cf28;simp only[kB,ctlB]
 repeat' ((first|refine xSTf ?_|refine xOTf rfl ?_);(try simp only[ctlB]))
 have g0:Heap.get (H++[some T]) H.length=some T:=get_push_self _ _
 have hx1:=Ext.push H (some T)
 generalize H++[some T]=K at *
 refine aw_for (fun k S H'=>K=H'∧∃(z:Nat→Value),S=[z 0,.slice (some ⟨xb,xo,xsp⟩) 8 xc,.pointer (some ⟨H.length,0,none⟩),z 3,z 4,.int .i64 ((pS f k:Nat):Int),.int .i64 ((rA f k:Nat):Int),.int .i64 (k:Nat),z 8,z 9,z 10,z 11,z 12,z 13,z 14,z 15,z 16,z 17,z 18,z 19]) 8 ?_ ?_ ?_ ?_
 ·exact⟨rfl,exZTd rfl⟩
 ·rintro k S H' hk ⟨rfl,z,rfl⟩
  exact⟨_,xETf,by simp;omega⟩
 ·rintro k S H' hk ⟨rfl,z,rfl⟩
  have hat:=hf.resolve_left id k hk
  obtain⟨w1,w6⟩:=h16.resolve_left id k hk
  have hsk:=hsm k (by omega)
  have hrk:=hrl k
  have e1:pS f (k+1)=pS f k+f k:=rfl
  have e2:rA f (k+1)=(rA f k+ptN k (f k))%9:=rfl
  have hp9:=ptN_le (k:=k) w6
  have hm:(((rA f k:Nat):Int)+((ptN k (f k):Nat):Int)).tmod 9=(((rA f k+ptN k (f k))%9:Nat):Int):=by
   rw[←Int.natCast_add];rfl
  have hb:=(partP (lo:=lo) (H:=K) hk w6).sub subT
  rw[e1,e2]
  clear e1 e2 hsm hrl hc9 htat
  generalize rA f k=r0 at *
  generalize (r0+ptN k (f k))%9=r1 at *
  generalize pS f k=s0 at *
  generalize f k=w at *
  (try simp only[ctlB])
  refine xCTf (fun h=>?_) (fun h=>?_)
  ·simp at h;omega
  clear h
  (try simp only[ctlB])
  repeat' ((first|refine xSTf ?_|refine xOTf rfl ?_);(try simp only[ctlB]))
  refine xHTf ?_
  refine wpH_call0 hb ?_
  rintro r K2 ⟨rfl,rfl⟩
  (try simp only[ctlB])
  repeat' ((first|refine xSTf ?_|refine xOTf rfl ?_);(try simp only[ctlB]))
  exact⟨by trivial,exZTd (by first|rfl|(simp only[Int.natCast_add,Int.natCast_one];rfl)|simp only[Int.natCast_add,Int.natCast_one])⟩
 rintro S H' ⟨rfl,z,rfl⟩
 have hs8:=hsm 8 (by omega)
 (try simp only[ctlB])
 refine xCTf (fun h=>?_) (fun h=>?_)
 ·have hbad:¬ pS f 8=17:=by simp at h;omega
  clear h
  rw[if_neg hbad]
  clear htat hrl hsm
  (try simp only[ctlB])
  repeat' ((first|refine xSTf ?_|refine xOTf rfl ?_);(try simp only[ctlB]))
  refine xRTf ?_
  exact⟨hx1,rfl⟩
 have h17:pS f 8=17:=by simp at h;omega
 clear h
 rw[if_pos h17,h17,hr8.resolve_left id]
 have hnl:=nA_le f (clu f) (fun k hk=>(h16.resolve_left id k hk).2)
 have hcA:=cA_lt f hc9
 clear hs8 hsm hrl hr8
 replace h17:False∨_:=.inr h17
 generalize clu f=c at *
 (try simp only[ctlB])
 repeat' ((first|refine xSTf ?_|refine xOTf rfl ?_);(try simp only[ctlB]))
 refine aw_for (fun k S H'=>K=H'∧∃(z:Nat→Value),S=[z 0,.slice (some ⟨xb,xo,xsp⟩) 8 xc,.pointer (some ⟨H.length,0,none⟩),z 3,z 4,.int .i64 ((17-pS f k:Nat):Int),.int .i64 (c:Nat),z 7,.int .i64 ((nA f c k:Nat):Int),.int .i64 ((cA f c k:Nat):Int),.int .i64 (k:Nat),z 11,z 12,z 13,z 14,z 15,z 16,z 17,z 18,z 19]) 8 ?_ ?_ ?_ ?_
 ·exact⟨rfl,exZTd rfl⟩
 ·rintro k S H' hk ⟨rfl,z,rfl⟩
  exact⟨_,xETf,by simp;omega⟩
 ·rintro k S H' hk ⟨rfl,z,rfl⟩
  have hat:=hf.resolve_left id k hk
  obtain⟨w1,w6⟩:=h16.resolve_left id k hk
  have hn1:=hnl k (by omega)
  have hn2:=hnl (k+1) (by omega)
  have hck:=hcA k
  have hsle:pS f k+f k≤17:=by
   have:=pS_le (ws:=f) (a:=k+1) (b:=8) (by omega)
   have e1:pS f (k+1)=pS f k+f k:=rfl
   rw[h17.resolve_left id]at this;omega
  have ecA:cA f c (k+1)=rsN k (cA f c k) (f k):=rfl
  have enA:nA f c (k+1)=nA f c k+sumW k (17-pS f k) (cA f c k) (f k-1):=rfl
  have epS:((17-pS f (k+1):Nat):Int)=((17-pS f k:Nat):Int)-((f k:Nat):Int):=by
   have e1:pS f (k+1)=pS f k+f k:=rfl
   omega
  rw[ecA,enA,epS]
  rw[enA]at hn2
  clear hnl hcA hf h16 h17 ecA enA epS
  generalize cA f c k=d at *
  generalize hs:17-pS f k=s at *
  have hs18:s<18:=by omega
  have hws:f k≤s:=by omega
  generalize nA f c k=n at *
  generalize f k=w at *
  clear hs hsle
  have htat2:False∨∀m,m+1≤s→T[(k+1)*162+(s-(m+1))*9+rsN k d (m+1)]?=some (.int .i64 ((bhd k s d (m+1):Nat):Int)):=.inr fun m hm=>htat hk hs18 hck hm
  clear htat
  (try simp only[ctlB])
  repeat' ((first|refine xSTf ?_|refine xOTf rfl ?_);(try simp only[ctlB]))
  refine aw_for (fun m S H'=>K=H'∧∃(z:Nat→Value),S=[z 0,.slice (some ⟨xb,xo,xsp⟩) 8 xc,.pointer (some ⟨H.length,0,none⟩),z 3,z 4,.int .i64 (s:Nat),.int .i64 (c:Nat),z 7,.int .i64 ((n+sumW k s d m:Nat):Int),.int .i64 (d:Nat),.int .i64 (k:Nat),.int .i64 ((m+1:Nat):Int),z 12,z 13,z 14,z 15,z 16,z 17,z 18,z 19]) (w-1) ?_ ?_ ?_ ?_
  ·exact⟨rfl,exZTd rfl⟩
  ·rintro m S H' hm ⟨rfl,z,rfl⟩
   exact⟨_,xETf,by simp;omega⟩
  ·rintro m S H' hm ⟨rfl,z,rfl⟩
   have htm:=htat2.resolve_left id m (by omega)
   have hmp:=mod_pt hk hck (show m+1≤6 by omega)
   have hp9:=ptN_le (k:=k) (show m+1≤6 by omega)
   have hr9:=rsN_lt (k:=k) (c:=d) (w:=m+1) hck
   have hb:=(partP (lo:=lo) (H:=K) hk (show m+1≤6 by omega)).sub subT
   have ek1:(((k:Nat):Int)+1).toNat=k+1:=by omega
   have es1:(((s:Nat):Int)-((m+1:Nat):Int)).toNat=s-(m+1):=by omega
   have hms:m+1≤s:=by omega
   have hbl:=bhd_le k s d (m+1)
   have hsl:=sumW_le k s d m
   have hst:sumW k s d (m+1)=sumW k s d m+bhd k s d (m+1):=rfl
   have hsum:((n+sumW k s d m:Nat):Int)+((bhd k s d (m+1):Nat):Int)=((n+sumW k s d (m+1):Nat):Int):=by omega
   obtain⟨y,hy⟩:∃y,y=n+sumW k s d (m+1):=⟨_,rfl⟩
   rw[←hy]at hsum
   have hyb:y≤100000000:=by omega
   have hub:n+sumW k s d m≤100000000:=by omega
   clear hst hsl
   replace hy:False∨_:=.inr hy
   generalize n+sumW k s d m=u at *
   generalize bhd k s d (m+1)=bv at *
   generalize rsN k d (m+1)=q at *
   (try simp only[ctlB])
   repeat' ((first|refine xSTf ?_|refine xOTf rfl ?_);(try simp only[ctlB]))
   refine xHTf ?_
   refine wpH_callC hb ?_
   rintro r K2 ⟨rfl,rfl⟩
   (try simp only[ctlB])
   repeat' ((first|refine xSTf ?_|refine xOTf rfl ?_);(try simp only[ctlB]))
   exact⟨by trivial,exZTd (by rw[←hy.resolve_left id];first|rfl|(simp only[Int.natCast_add,Int.natCast_one];rfl))⟩
  rintro S H' ⟨rfl,z,rfl⟩
  have hb:=(partP (lo:=lo) (H:=K) hk (show w≤6 by omega)).sub subT
  have hmp:=mod_pt hk hck (show w≤6 by omega)
  have hp9:=ptN_le (k:=k) (show w≤6 by omega)
  (try simp only[ctlB])
  repeat' ((first|refine xSTf ?_|refine xOTf rfl ?_);(try simp only[ctlB]))
  refine xHTf ?_
  refine wpH_call0 hb ?_
  rintro r K2 ⟨rfl,rfl⟩
  (try simp only[ctlB])
  repeat' ((first|refine xSTf ?_|refine xOTf rfl ?_);(try simp only[ctlB]))
  exact⟨by trivial,exZTd (by first|rfl|(simp only[Int.natCast_add,Int.natCast_one];rfl)|simp only[Int.natCast_add,Int.natCast_one])⟩
 rintro S H' ⟨rfl,z,rfl⟩
 clear hnl hcA hf h16 h17 htat
 (try simp only[ctlB])
 repeat' ((first|refine xSTf ?_|refine xOTf rfl ?_);(try simp only[ctlB]))
 refine xRTf ?_
 exact⟨hx1,rfl⟩
theorem rightP{lo:Nat}{H:Heap}{k n:Int}:Ev cp lo 29 [.int .i64 k,.int .i64 n] H (fun r H'=>H'=H∧r=.bool (decide ((k=0∨k=3∨k=6)∧n≤928))):=by
 refine st29 ?_;unfold bd29 cf29;simp only[kB,ctlB]
 repeat' ((first|refine xSTf ?_|refine xOTf rfl ?_);(try simp only[ctlB]))
 refine xRTf ?_
 refine⟨rfl,?_⟩
 simp only[resultOf,Value.bool.injEq]
 rw[Bool.eq_iff_iff]
 simp
 omega
theorem RValueP{lo:Nat}{H:Heap}{v:Value}{l:List Int}(hlo:lo≤H.length)(hv:SlI H v l)(hll:l.length≤9223372036854775807):Ev cp lo 13 [v] H (fun r H'=>Ext H H'∧r=valV l):=by
 have hv0:=hv
 obtain⟨ad,c0,rfl⟩:=hv.len
 unfold valV
 refine st13 ?_;unfold bd13 cf13;simp only[kB,ctlB]
 repeat' ((first|refine xSTf ?_|refine xOTf rfl ?_);(try simp only[ctlB]))
 refine xCTf (fun h=>?_) (fun h=>?_)
 ·have e:l.length≠8:=by simp at h;omega
  clear h
  rw[if_pos e]
  (try simp only[ctlB])
  repeat' ((first|refine xSTf ?_|refine xOTf rfl ?_);(try simp only[ctlB]))
  refine xRTf ?_
  exact⟨Ext.refl _,rfl⟩
 have e:l.length=8:=by simp at h;omega
 clear h
 rw[if_neg (fun h=>h e)]
 obtain⟨xb,xo,xsp,xc,xs,e1,g1,f1,l1⟩:=hv0.els 0 (by omega)
 cases e1
 rw[e]at f1
 rw[e]at hv hv0 ⊢
 (try simp only[ctlB])
 repeat' ((first|refine xSTf ?_|refine xOTf rfl ?_);(try simp only[ctlB]))
 refine aw_for (fun k S H'=>H=H'∧Okw l k∧∃(z:Nat→Value),S=[.slice (some ⟨xb,xo,xsp⟩) 8 c0,z 1,z 2,z 3,.int .i64 (k:Nat),z 5,z 6,z 7,z 8,z 9]) 8 ?_ ?_ ?_ ?_
 ·exact⟨rfl,fun i hi=>by omega,exZTd rfl⟩
 ·rintro k S H' hk ⟨rfl,hok,z,rfl⟩
  exact⟨_,xETf,by simp;omega⟩
 ·rintro k S H' hk ⟨rfl,hok,z,rfl⟩
  have hat:=f1 k hk
  clear f1 hv hv0
  obtain⟨x,hx⟩:∃x,x=l.getD k 0:=⟨_,rfl⟩
  rw[←hx]at hat
  replace hx:False∨_:=.inr hx
  replace hok:False∨_:=.inr hok
  (try simp only[ctlB])
  refine xCTf (fun h=>?_) (fun h=>?_)
  ·have hbad:¬ Okw l 8:=fun q=>by
    have:=q k hk
    rw[←hx.resolve_left id]at this
    simp only[Bool.or_eq_true,decide_eq_true_eq]at h
    omega
   clear h
   (try simp only[ctlB])
   repeat' ((first|refine xSTf ?_|refine xOTf rfl ?_);(try simp only[ctlB]))
   refine xRTf ?_
   rw[if_pos hbad]
   exact⟨Ext.refl _,rfl⟩
  have hx16:1≤x∧x≤6:=by
   simp only[Bool.or_eq_false_iff,decide_eq_false_iff_not]at h
   omega
  clear h
  (try simp only[ctlB])
  repeat' ((first|refine xSTf ?_|refine xOTf rfl ?_);(try simp only[ctlB]))
  refine⟨by trivial,fun i hi=>?_,exZTd (by first|rfl|(simp only[Int.natCast_add,Int.natCast_one];rfl)|simp only[Int.natCast_add,Int.natCast_one])⟩
  by_cases q:i=k
  ·subst q;rw[←hx.resolve_left id];exact hx16
  ·exact hok.resolve_left id i (by omega)
 rintro S H' ⟨rfl,hok,z,rfl⟩
 rw[if_neg (fun q=>q hok)]
 have hw:=waysP hlo
 have hnum:=fun {K:Heap} (hx:Ext H K)=>numberP (lo:=lo) (H:=K) (l:=l) (by have:=hx.1;omega) (hv0.mono hx) e hok
 have hc9:clu (wsL l)<9:=Nat.mod_lt _ (by decide)
 have hn48:=nA_le (wsL l) (clu (wsL l)) (fun k hk=>(okw_at hok hk).2.2) 8 (Nat.le_refl _)
 clear f1 hv hv0 hok
 generalize tabV=T at *
 generalize wsL l=f at *
 (try simp only[ctlB])
 refine xHTf ?_
 refine wpH_call0 hw ?_
 rintro r K ⟨rfl,hx1⟩
 have hnum1:=hnum hx1
 clear hnum hw
 by_cases h17:pS f 8=17
 ·rw[if_pos h17]at hnum1
  (try simp only[ctlB])
  refine xHTf ?_
  refine wpH_call0 hnum1 ?_
  rintro r K2 ⟨hx2,rfl⟩
  clear hnum1
  generalize nA f (clu f) 8=n at *
  (try simp only[ctlB])
  repeat' ((first|refine xSTf ?_|refine xOTf rfl ?_);(try simp only[ctlB]))
  refine xHTf ?_
  refine wpH_call0 rightP ?_
  rintro r K3 ⟨rfl,rfl⟩
  (try simp only[ctlB])
  refine xCTf (fun h=>?_) (fun h=>?_)
  ·have hbad:clu f%3≠0∨928<n:=by
    simp at h
    omega
   clear h
   (try simp only[ctlB])
   repeat' ((first|refine xSTf ?_|refine xOTf rfl ?_);(try simp only[ctlB]))
   refine xRTf ?_
   refine⟨hx1.trans hx2,?_⟩
   by_cases q:clu f%3≠0
   ·rw[if_pos (.inr q)];rfl
   ·rw[if_neg (by omega),if_pos (by omega)];rfl
  have hgood:clu f%3=0∧n≤928:=by
   simp at h
   omega
  clear h
  (try simp only[ctlB])
  repeat' ((first|refine xSTf ?_|refine xOTf rfl ?_);(try simp only[ctlB]))
  refine xRTf ?_
  refine⟨hx1.trans hx2,?_⟩
  rw[if_neg (by omega),if_neg (by omega)];rfl
 ·rw[if_neg h17]at hnum1
  rw[if_pos (.inl h17)]
  (try simp only[ctlB])
  refine xHTf ?_
  refine wpH_call0 hnum1 ?_
  rintro r K2 ⟨hx2,rfl⟩
  clear hnum1
  (try simp only[ctlB])
  repeat' ((first|refine xSTf ?_|refine xOTf rfl ?_);(try simp only[ctlB]))
  refine xHTf ?_
  refine wpH_call0 rightP ?_
  rintro r K3 ⟨rfl,rfl⟩
  (try simp only[ctlB])
  repeat' ((first|refine xSTf ?_|refine xOTf rfl ?_);(try simp only[ctlB]))
  refine xCTf (fun h=>?_) (fun h=>?_)
  ·clear h
   (try simp only[ctlB])
   repeat' ((first|refine xSTf ?_|refine xOTf rfl ?_);(try simp only[ctlB]))
   refine xRTf ?_
   exact⟨hx1.trans hx2,rfl⟩
  ·simp at h
end Go.Proofs.YtgiojnobcjnibaaGreatDoor
