/- Lemmas. -/
import Derived.Test.YtgiojnobcjnibaaGreatDoorP15
import Derived.Test.YtgiojnobcjnibaaGreatDoorP19
set_option linter.unusedVariables false
set_option linter.unusedSimpArgs false
set_option linter.unusedSectionVars false
namespace Go.Proofs.YtgiojnobcjnibaaGreatDoor
open Go.Abs
set_option maxRecDepth 20000
theorem xt7{lo:Nat}{H:Heap}{R:Value→Heap→Prop}{a0 a1:Value}(h:wpS cpS lo bd7 (bodyQ cf7 R) [a0,a1,undef,undef,undef,undef,undef,undef,undef,undef,undef,undef,undef,undef,undef,undef,undef,undef,undef,undef,undef,undef] H):Ev cpS lo 7 [a0,a1] H R:=ev_of_wp (cf:=cf7) rfl rfl rfl h
theorem pL_at{c v i:Nat}(hi:i<8):(pL c v).getD i 0=((wA c v i:Nat):Int):=by
 simp[pL,List.getD_eq_getElem?_getD,List.getElem?_range hi]
theorem wsL_pL{c v i:Nat}(hi:i<8):wsL (pL c v) i=wA c v i:=by unfold wsL;rw[pL_at hi];rfl
theorem pS_congr{f g:Nat→Nat}(h:∀i,i<8→f i=g i):∀k,k≤8→pS f k=pS g k
 | 0,_=>rfl
 | k+1,hk=>by simp only[pS];rw[pS_congr h k (by omega),h k (by omega)]
theorem cA_congr{f g:Nat→Nat}{c:Nat}(h:∀i,i<8→f i=g i):∀k,k≤8→cA f c k=cA g c k
 | 0,_=>rfl
 | k+1,hk=>by simp only[cA];rw[cA_congr h k (by omega),h k (by omega)]
theorem nA_congr{f g:Nat→Nat}{c:Nat}(h:∀i,i<8→f i=g i):∀k,k≤8→nA f c k=nA g c k
 | 0,_=>rfl
 | k+1,hk=>by simp only[nA];rw[nA_congr h k (by omega),pS_congr h k (by omega),cA_congr h k (by omega),h k (by omega)]
theorem val_pL{c v:Nat}(hc:c<9)(hc3:c%3=0)(h0:v<wyN 0 17 c)(hv:v≤928):valV (pL c v)=tup3 c v 0:=by
 have hcg:∀i,i<8→wsL (pL c v) i=wA c v i:=fun i hi=>wsL_pL hi
 obtain⟨h1,h2,h3⟩:=pattern_back h0 hc
 have e1:pS (wsL (pL c v)) 8=17:=by rw[pS_congr hcg 8 (Nat.le_refl _)];exact h1
 have e2':clu (wsL (pL c v))=clu (wA c v):=by
  unfold clu
  rw[hcg 0 (by omega),hcg 2 (by omega),hcg 4 (by omega),hcg 6 (by omega)]
 have e2:=e2'.trans h2
 have e3:nA (wsL (pL c v)) c 8=v:=by rw[nA_congr hcg 8 (Nat.le_refl _)];exact h3
 have hok:Okw (pL c v) 8:=fun i hi=>by
  rw[pL_at hi]
  have:=pw_le i (stA c v i).s (stA c v i).c (stA c v i).v
  have e:wA c v i=pw i (stA c v i).s (stA c v i).c (stA c v i).v:=rfl
  omega
 unfold valV
 rw[if_neg (by rw[pL_len];decide),if_neg (fun q=>q hok),e1,e2,e3,if_neg (by omega),if_neg (by omega)]
theorem xTLd{cp:FuncId→Option CF}{lo:Nat}{l:List (Nat×E)}{chk:List E}{Q:Post}{S:List Value}{H:Heap}{vs:List (Nat×Value)}{dst:Option Nat}{o:HOp}{a:E}{xs:List Value}{pc:PC}(k:wpH cp lo o xs H fun v H'=>Q .normal (setD (setAll S vs) dst v) H')(h:evSets S H l=some vs:=by exact xETd)(hc:evChk S H chk=true:=by simp(disch:=first|omega|(simp only[lenB];omega))only[evB,xBTd,Nat.reduceAdd,Nat.reduceMul,Nat.reduceBEq,Int.reduceToNat,Int.reduceEq,Int.reduceNe, *])(hp:holds S H pc=some true:=by simp(disch:=first|omega|(simp only[lenB];omega))only[evB,xBTd,Nat.reduceAdd,Nat.reduceMul,Nat.reduceBEq,Int.reduceToNat,Int.reduceEq,Int.reduceNe, *];try rfl)(ha:ev S H a=some xs:=by exact xETd):wpS cp lo (.hv l chk pc dst o a) Q S H:=aw_hvT h hc hp ha k
theorem lawInvP{H:Heap}{c v:Int}(hv1:v≤9223372036854775807):Ev cpS H.length 7 [.int .i64 c,.int .i64 v] H (fun r _=>r=.bool true):=by
 refine xt7 ?_;unfold bd7 cf7;simp only[kB,ctlB]
 repeat' ((first|refine xSTd ?_|refine xOTd rfl ?_);(try simp only[ctlB]))
 refine xHTd ?_
 refine wpH_call0 ((PatternP (Nat.le_refl _)).sub subS) ?_
 rintro r H1 ⟨hx1,hp1⟩
 have hl1:=hx1.1
 rcases hp1 with ⟨hno,rfl⟩|⟨hyes,s,rfl,hs⟩
 ·have hb:(decide (c≠0)&&decide (c≠3)&&decide (c≠6) || decide (v<0) || decide (v>928))=true:=by
   unfold Vd at hno
   simp only[Bool.or_eq_true,Bool.and_eq_true,decide_eq_true_eq]
   omega
  (try simp only[ctlB])
  repeat' ((first|refine xSTd ?_|refine xOTd rfl ?_);(try simp only[ctlB]))
  refine xCTd (fun h=>?_) (fun h=>?_)
  ·clear h
   (try simp only[ctlB])
   refine xTLd ?_
   refine wpH_call0 (aliveP (by omega)) ?_
   rintro r K2 ⟨hx5,rfl⟩
   (try simp only[ctlB])
   repeat' ((first|refine xSTd ?_|refine xOTd rfl ?_);(try simp only[ctlB]))
   refine xRTd ?_
   rfl
  ·simp at h
 ·obtain⟨a,b,rfl,rfl,ha,hb,hb9⟩:=vd_ok hyes
  have ha3:a%3=0:=by have:=hyes.1;omega
  have hval:=val_pL ha ha3 hb hb9
  have h16:∀i,i<8→1≤wA a b i∧wA a b i≤6:=fun i _=>pw_le i (stA a b i).s (stA a b i).c (stA a b i).v
  obtain⟨q1,q2,-⟩:=pattern_back hb ha
  have hs0:SlI H1 s (pL a b):=hs
  have hpa:=fun(i:Nat) (hi:i<8)=>pL_at (c:=a) (v:=b) hi
  have hvP:=fun {K:Heap} (hx:Ext H1 K)=>ValueP (lo:=H.length) (by have:=hx.1;omega) (hs0.mono hx)
  rw[hval]at hvP
  obtain⟨xb,xo,xsp,xc,xs,e1,g1,f1,l1⟩:=hs0.els 0 (by rw[pL_len];decide)
  rw[pL_len]at e1 l1 f1
  subst e1
  have hf:∀i,i<8→xs[xo+i]?=some (.int .i64 ((wA a b i:Nat):Int)):=fun i hi=>by rw[f1 i hi,hpa i hi]
  clear f1 hs hs0 hpa hyes hval
  have hpS:∀k,k≤8→pS (wA a b) k≤17:=fun k hk=>by rw[←q1];exact pS_le hk
  have horder:∀k,b+1<wyN 0 17 a→k<8→(∀j,j<k→wA a b j=wA a (b+1) j)→wA a b k≤wA a (b+1) k:=fun k h hk he=>order (by omega) h ha hk he
  have hdiff:b+1<wyN 0 17 a→¬ ∀j,j<8→wA a b j=wA a (b+1) j:=fun h=>differ (by omega) h ha
  generalize hfe:wA a b=f at *
  have f0:xs[xo]?=some (.int .i64 ((f 0:Nat):Int)):=hf 0 (by omega)
  have f2:=hf 2 (by omega)
  have f4:=hf 4 (by omega)
  have f6:=hf 6 (by omega)
  have b0:=h16 0 (by omega)
  have b2:=h16 2 (by omega)
  have b4:=h16 4 (by omega)
  have b6:=h16 6 (by omega)
  have hcl:(((f 0:Nat):Int)-(f 2:Nat)+(f 4:Nat)-(f 6:Nat)+18).tmod 9=((a:Nat):Int):=by
   rw[show((f 0:Nat):Int)-(f 2:Nat)+(f 4:Nat)-(f 6:Nat)+18=((f 0+18-f 2+f 4-f 6:Nat):Int) by omega,←q2];rfl
  replace hf:False∨∀i,i<8→xs[xo+i]?=some (.int .i64 ((f i:Nat):Int)):=.inr hf
  replace h16:False∨∀i,i<8→1≤f i∧f i≤6:=.inr h16
  replace q1:False∨_:=.inr q1
  replace q2:False∨_:=.inr q2
  replace hfe:False∨_:=.inr hfe
  replace hpS:False∨_:=.inr hpS
  replace horder:False∨_:=.inr horder
  replace hdiff:False∨_:=.inr hdiff
  have hv1:=(hvP (Ext.refl _)).sub subS
  clear hvP
  unfold tup3 at hv1
  (try simp only[ctlB])
  repeat' ((first|refine xSTd ?_|refine xOTd rfl ?_);(try simp only[ctlB]))
  refine xCTd (fun h=>?_) (fun h=>?_)
  ·simp at h
  clear h
  (try simp only[ctlB])
  refine xHTd ?_
  refine wpH_call0 hv1 ?_
  rintro r H2 ⟨hx2,rfl⟩
  clear hv1
  have hx12:=hx1.trans hx2
  have hl2:=hx12.1
  have g2:=hx2.get g1
  (try simp only[ctlB])
  repeat' ((first|refine xSTd ?_|refine xOTd rfl ?_);(try simp only[ctlB]))
  refine xCTd (fun h=>?_) (fun h=>?_)
  ·simp at h
  clear h
  (try simp only[ctlB])
  repeat' ((first|refine xSTd ?_|refine xOTd rfl ?_);(try simp only[ctlB]))
  refine aw_for (fun k S H'=>H2=H'∧∃(z:Nat→Value),S=[.int .i64 (a:Nat),.int .i64 (b:Nat),z 2,.slice (some ⟨xb,xo,xsp⟩) 8 xc,z 4,z 5,z 6,z 7,.int .i64 ((pS f k:Nat):Int),z 9,z 10,z 11,z 12,z 13,z 14,z 15,z 16,.int .i64 (8:Nat),.int .i64 (k:Nat),z 19,z 20,z 21]) 8 ?_ ?_ ?_ ?_
  ·exact⟨rfl,exZTd rfl⟩
  ·rintro k S H' hk ⟨rfl,z,rfl⟩
   exact⟨_,xETd,by simp;omega⟩
  ·rintro k S H' hk ⟨rfl,z,rfl⟩
   have hat:=hf.resolve_left id k hk
   obtain⟨w1,w6⟩:=h16.resolve_left id k hk
   have hp:=hpS.resolve_left id k (by omega)
   have e1:pS f (k+1)=pS f k+f k:=rfl
   rw[e1]
   clear e1 f0 f2 f4 f6 hcl b0 b2 b4 b6
   generalize pS f k=s0 at *
   generalize f k=w at *
   (try simp only[ctlB])
   repeat' ((first|refine xSTd ?_|refine xOTd rfl ?_);(try simp only[ctlB]))
   refine xCTd (fun h=>?_) (fun h=>?_)
   ·simp at h;omega
   clear h
   (try simp only[ctlB])
   repeat' ((first|refine xSTd ?_|refine xOTd rfl ?_);(try simp only[ctlB]))
   exact⟨by trivial,exZTd (by first|rfl|(simp only[Int.natCast_add,Int.natCast_one];rfl)|simp only[Int.natCast_add,Int.natCast_one])⟩
  rintro S H' ⟨rfl,z,rfl⟩
  rw[q1.resolve_left id]
  (try simp only[ctlB])
  refine xCTd (fun h=>?_) (fun h=>?_)
  ·simp at h
  clear h
  have hn:((b:Nat):Int)+1=((b+1:Nat):Int):=by omega
  have hP2:=(PatternP (lo:=H.length) (H:=H2) (c:=(a:Nat)) (v:=((b+1:Nat):Int)) (by omega)).sub subS
  clear f0 f2 f4 f6 hcl b0 b2 b4 b6
  (try simp only[ctlB])
  refine xHTd ?_
  refine wpH_call0 hP2 ?_
  rintro r H3 ⟨hx3,hp3⟩
  clear hP2
  have hx13:=hx12.trans hx3
  have hl3:=hx13.1
  have g3:=hx3.get g2
  have hu:IntKind.i64.wrap ((b:Nat)+1)=((b+1:Nat):Int):=by rw[hn];exact wrap_i64 (by omega) (by omega)
  rcases hp3 with ⟨hno,rfl⟩|⟨hyes,s2,rfl,hs2⟩
  ·have hb28:b=928:=by
    unfold Vd at hno
    omega
   subst hb28
   clear hf h16 q1 q2 hfe hpS horder hdiff hno
   (try simp only[ctlB])
   repeat' ((first|refine xSTd ?_|refine xOTd rfl ?_);(try simp only[ctlB]))
   refine aw_loop' (fun m S H'=>H'=H3∧∃(z:Nat→Value),S=[z 0,.int .i64 (928:Nat),z 2,z 3,z 4,z 5,z 6,z 7,z 8,z 9,z 10,.int .i64 3,.int .i64 0,z 13,z 14,z 15,z 16,z 17,z 18,z 19,z 20,z 21]) 0 ⟨rfl,exZTd rfl⟩ ?_
   rintro m S H' ⟨rfl,z,rfl⟩
   (try simp only[ctlB])
   refine xCTd (fun h=>?_) (fun h=>?_)
   ·simp at h
   clear h
   (try simp only[ctlB])
   refine xTLd ?_
   refine wpH_call0 (aliveP (by omega)) ?_
   rintro r K2 ⟨hx5,rfl⟩
   (try simp only[ctlB])
   repeat' ((first|refine xSTd ?_|refine xOTd rfl ?_);(try simp only[ctlB]))
   refine xRTd ?_
   rfl
  ·obtain⟨a',b',ea,eb,ha',hb',hb9'⟩:=vd_ok hyes
   obtain rfl:a'=a:=by omega
   obtain rfl:b'=b+1:=by omega
   have hs2:SlI H3 s2 (pL a' (b+1)):=hs2
   obtain⟨yb,yo,ysp,yc,ys,e1,g4,f4,l4⟩:=hs2.els 0 (by rw[pL_len];decide)
   rw[pL_len]at e1 l4 f4
   subst e1
   have hgf:∀i,i<8→ys[yo+i]?=some (.int .i64 ((wA a' (b+1) i:Nat):Int)):=fun i hi=>by rw[f4 i hi,pL_at hi]
   have horder:=fun k=>horder.resolve_left id k hb'
   have hdiff:=hdiff.resolve_left id hb'
   have hb27:decide (((b:Nat):Int)<928)=true:=decide_eq_true (by omega)
   clear f4 hs2 hyes ea eb hb' q1 q2 hfe hpS h16
   generalize wA a' (b+1)=g at *
   replace hgf:False∨_:=.inr hgf
   replace horder:False∨_:=.inr horder
   replace hdiff:False∨_:=.inr hdiff
   (try simp only[ctlB])
   repeat' ((first|refine xSTd ?_|refine xOTd rfl ?_);(try simp only[ctlB]))
   refine aw_loop' (fun m S H'=>H'=H3∧∃k,k≤8∧m=8-k∧(∀j,j<k→f j=g j)∧∃(z:Nat→Value),S=[z 0,.int .i64 (b:Nat),z 2,.slice (some ⟨xb,xo,xsp⟩) 8 xc,z 4,z 5,z 6,z 7,z 8,z 9,.slice (some ⟨yb,yo,ysp⟩) 8 yc,.int .i64 0,.int .i64 (k:Nat),z 13,z 14,z 15,z 16,z 17,z 18,z 19,z 20,z 21]) 8 ⟨rfl,0,by omega,rfl,fun j hj=>by omega,exZTd rfl⟩ ?_
   rintro m S H' ⟨rfl,k,hk8,rfl,he,z,rfl⟩
   have hk:k<8:=by
    refine Decidable.byContradiction fun hc=>hdiff.resolve_left id fun j hj=>he j (by omega)
   have hle:=horder.resolve_left id k hk he
   have hat:=hf.resolve_left id k hk
   have hat2:=hgf.resolve_left id k hk
   replace he:False∨_:=.inr he
   (try simp only[ctlB])
   refine xCTd (fun h=>?_) (fun h=>?_)
   rotate_left
   ·simp at h;omega
   clear h
   (try simp only[ctlB])
   refine xCTd (fun h=>?_) (fun h=>?_)
   ·simp at h;omega
   clear h
   (try simp only[ctlB])
   refine xCTd (fun h=>?_) (fun h=>?_)
   ·clear h
    (try simp only[ctlB])
    rw[if_neg (by decide)]
    (try simp only[ctlB])
    refine xTLd ?_
    refine wpH_call0 (aliveP (by omega)) ?_
    rintro r K2 ⟨hx5,rfl⟩
    (try simp only[ctlB])
    repeat' ((first|refine xSTd ?_|refine xOTd rfl ?_);(try simp only[ctlB]))
    refine xRTd ?_
    rfl
   ·have heq:f k=g k:=by simp at h;omega
    clear h
    replace heq:False∨_:=.inr heq
    (try simp only[ctlB])
    repeat' ((first|refine xSTd ?_|refine xOTd rfl ?_);(try simp only[ctlB]))
    simp only[loopQ_n]
    refine⟨_,by omega,by trivial,k+1,by omega,rfl,fun j hj=>?_,exZTd (by first|rfl|(simp only[Int.natCast_add,Int.natCast_one];rfl)|simp only[Int.natCast_add,Int.natCast_one])⟩
    by_cases q:j=k
    ·subst q;exact heq.resolve_left id
    ·exact he.resolve_left id j (by omega)
end Go.Proofs.YtgiojnobcjnibaaGreatDoor
