/- Lemmas. -/
import Derived.Test.YtgpolmomghejoaaDoorE24
set_option linter.unusedVariables false
set_option linter.unusedSimpArgs false
set_option linter.unusedSectionVars false
namespace Go.Proofs.YtgpolmomghejoaaDoor
open Go.Abs
set_option maxRecDepth 20000
theorem ym{H0:Heap}{lo B:Nat}{pv:Value}{p:List UInt8}{F:FT}(hd:∀i,dgA p i=0)(hp:p.length≤4096):p9 H0 lo B pv p F:=by
 intro H i a b left N hN hM hv;clear hN;obtain⟨hi,h2,h3,h4⟩:=hv;have ha:a=0:=by have:=hd i;omega
 subst ha;have hb:b=0:=h3 rfl;subst hb;have hP:=hM.pl.ok;have hb7:=Heap.get_lt hP.at_.g7;have hlo:=hP.lo;have hx1:=hP.ext.1;have hlow:=hP.low;have hmv:bK p (5,i,0,0)=dE i:=by simp only[bK,Nat.lt_irrefl,if_false,hd i,List.range_zero,List.map_nil,List.append_nil]
 have hd0:=hd i;have eth:thV (5,i,0,0)=.agg #[.int .i64 5,.int .i64 (i:Nat),.int .i64 0,.int .i64 0]:=rfl;rw[eth];clear hd h2 h3 h4 eth;refine GO ?_;unfold BU wj;simp only[kB,aA];repeat' ((first|refine bS ?_|refine bT rfl ?_);(try simp only[aA]))
 have hxG:Ext H (H++[some [Value.int .i64 5,.int .i64 (i:Nat),.int .i64 0,.int .i64 0]]):=Ext.app _ _;have gs:Heap.get (H++[some [Value.int .i64 5,.int .i64 (i:Nat),.int .i64 0,.int .i64 0]]) H.length=some [.int .i64 5,.int .i64 (i:Nat),.int .i64 0,.int .i64 0]:=aH;have hMG:=hM.ex hxG;have hlG:(H++[some [Value.int .i64 5,.int .i64 (i:Nat),.int .i64 0,.int .i64 0]]).length=H.length+1:=by simp
 generalize H++[some [Value.int .i64 5,.int .i64 (i:Nat),.int .i64 0,.int .i64 0]]=G at *;clear hM hP
 (refine aF (t:=false) (by simp(disch:=first|omega|(simp only[aD];omega))only[evB,bR,Nat.reduceAdd,Nat.reduceMul,Nat.reduceBEq,Int.reduceToNat,Int.reduceEq, *];try rfl) (fun h=>by cases h) (fun h=>?_);clear h;(try simp only[aA]))
 refine fh ?_;refine aC (gp (by omega) (by omega)) ?_;rintro r K ⟨hx,b,hb,rfl,hg⟩;have hMK:=hMG.ex hx;have ks:=hx.get gs;have hxl:=hx.1;(try simp only[aA]);repeat' ((first|refine bS ?_|refine bT rfl ?_);(try simp only[aA]))
 refine bk (fun m S M=>M=K∧m=0∧∃(z:Nat→Value),S=[.pointer (some ⟨B+7,0,none⟩),z 1,z 2,.pointer (some ⟨H.length,0,none⟩),z 4,.slice (some ⟨b,0,none⟩) 4 4,.int .i64 1,z 7,z 8,z 9,z 10,z 11,z 12,z 13,z 14,z 15,z 16,z 17,z 18,z 19,z 20,z 21,z 22,z 23,z 24,z 25,z 26]) 0 ?_ ?_
 ·exact⟨rfl,rfl,aE rfl⟩
 rintro m S M ⟨rfl,rfl,z,rfl⟩;(try simp only[aA]);refine fh ?_;refine aC (mi (by omega) hMK.pl.ok.at_ hp hi) ?_;rw[hd0];rintro r M2 ⟨rfl,rfl⟩;(try simp only[aA])
 (refine aF (t:=false) (by simp(disch:=first|omega|(simp only[aD];omega))only[evB,bR,Nat.reduceAdd,Nat.reduceMul,Nat.reduceBEq,Int.reduceToNat,Int.reduceEq, *];try rfl) (fun h=>by cases h) (fun h=>?_);clear h;(try simp only[aA]))
 repeat' ((first|refine bS ?_|refine bT rfl ?_);(try simp only[aA]))
 refine fS ?_;refine⟨hMK,XB.of_ext (hxG.trans hx),dE i,?_,by simp[dE],.inr ⟨b,none,by omega,rfl,.inl rfl,hg⟩⟩;rw[←hmv];exact MvL.all
theorem rr:∀(N:Nat) (l:List Nat),l.Nodup→(∀x ∈ l,x<N)→l.length≤N
 | 0,l,_,h=>by
  cases l with
  | nil=>simp
  | cons a l=>exact absurd (h a (by simp)) (by omega)
 | N+1,l,hn,h=>by
  have h1:=rr N (l.erase N) (hn.erase N) fun x hx=>by
   grind
  grind
def ry(t:Thr):Nat:=((t.1*4100+t.2.1)*45+t.2.2.1)*16+t.2.2.2
theorem rZ{p:List UInt8}{t:Thr}(hp:p.length≤4096)(h:VT p t):t.1<7∧t.2.1<4100∧t.2.2.1<45∧t.2.2.2<16:=by
 obtain⟨k,i,a,b⟩:=t
 match k,h with
 | 0,h=>obtain⟨h1,h2,h3⟩:=h;simp only;omega
 | 1,h=>obtain⟨h1,h2,h3⟩:=h;simp only;omega
 | 2,h=>obtain⟨h1,h2,h3,h4⟩:=h;simp only;omega
 | 3,h=>obtain⟨h1,h2,h3,h4⟩:=h;simp only;omega
 | 4,h=>obtain⟨h1,h2,h3,h4⟩:=h;simp only;omega
 | 5,h=>
  obtain⟨h1,h2,h3,h4⟩:=h;have:=iM p i;simp only;by_cases h0:0<a
  ·have:=h4 h0;omega
  ·have:=h3 (by omega);omega
 | 6,h=>obtain⟨h1,h2,h3⟩:=h;simp only;omega
theorem zJ{t u:Thr}(h1:t.1<7∧t.2.1<4100∧t.2.2.1<45∧t.2.2.2<16)(h2:u.1<7∧u.2.1<4100∧u.2.2.1<45∧u.2.2.2<16)(h:ry t=ry u):t=u:=by
 grind[ry]
theorem ru{p:List UInt8}{l:List Thr}(hp:p.length≤4096)(hn:l.Nodup)(hv:∀t ∈ l,VT p t):l.length≤25000000:=by
 have h1:=rr 20664000 (l.map ry) (by
  unfold List.Nodup at hn ⊢;rw[List.pairwise_map];exact hn.imp_of_mem fun {a b} ha hb hne e=>hne (zJ (rZ hp (hv a ha)) (rZ hp (hv b hb)) e)) fun x hx=>by
  obtain⟨t,ht,rfl⟩:=List.mem_map.1 hx;have:=rZ hp (hv t ht);simp only[ry];omega
 rw[List.length_map]at h1;omega
def fZ(l:List Thr):List Value:=l.flatMap fun t=>[thV t,.bool true]
theorem ti(t u:Thr):gI [1,1,1,1] true (thV t) (thV u)=some (decide (t=u)):=by
 grind[thV,gI,aO,ft,Prod.mk.injEq,Int.ofNat.inj]
theorem mh{t:Thr}:∀{l:List Thr} (n:Nat),(t ∈ l→∃m,dt [1,1,1,1] true (thV t) (fZ l) n=some (some (m,.bool true)))∧(t ∉ l→dt [1,1,1,1] true (thV t) (fZ l) n=some none)
 | [],n=>⟨fun h=>by simp at h,fun _=>rfl⟩
 | u::l,n=>by
  have ih:=mh (t:=t) (l:=l) (n+1);have e:fZ (u::l)=thV u::.bool true::fZ l:=rfl;rw[e];simp only[dt,ti];by_cases h:t=u
  ·subst h
   simp only[decide_true];exact⟨fun _=>⟨n,rfl⟩,fun hn=>absurd (List.mem_cons_self ..) hn⟩
  ·simp only[h,decide_false]
   refine⟨fun hm=>ih.1 ?_,fun hn=>ih.2 fun hm=>hn (List.mem_cons_of_mem _ hm)⟩;rcases List.mem_cons.1 hm with hm|hm
   ·exact absurd hm h
   ·exact hm
theorem vu{H:Heap}{m:Nat}{l:List Thr}{t:Thr}(hg:H.get m=some (fZ l)):aG (.mget [1,1,1,1] true (.bool false) false) [.map (some m),thV t] H=some (.bool (decide (t ∈ l))):=by
 simp only[aG,ti];by_cases h:t ∈ l
 all_goals grind[mh,getM]
theorem wR{H:Heap}{lo m:Nat}{l:List Thr}{t:Thr}(hg:H.get m=some (fZ l))(hlo:lo≤m)(h:t ∉ l):aR lo (.mset [1,1,1,1] true) [.map (some m),thV t,.bool true] H=some (undef,H.set m (some (fZ (l++[t])))):=by
 simp only[aR,hsem,kY,if_pos hlo,hg,ti,(mh (t:=t) (l:=l) 0).2 h];simp[DD,fZ]
theorem va{H:Heap}{lo m:Nat}{l:List Thr}(hg:H.get m=some (fZ l))(hlo:lo≤m):aR lo .mclr [.map (some m)] H=some (undef,H.set m (some (fZ []))):=by
 simp only[aR,hsem,lY,if_pos hlo,hg];rfl
def gJ(t:Thr):List Value:=[.int .i64 (t.1:Nat),.int .i64 (t.2.1:Nat),.int .i64 (t.2.2.1:Nat),.int .i64 (t.2.2.2:Nat)]
theorem kQ(t:Thr):(gJ t).length=4:=rfl
structure AI (p:List UInt8)(left best:Nat)(next:List Thr)(P:Nat×Thr→Prop):Prop where
 low:∀x,P x→best≤x.1∧(x.1=best→x.2 ∈ next)
 mem:∀t ∈ next,P (best,t)
 nd:next.Nodup
 emp:next=[]→best=1073741824∧∀x,¬ P x
 vt:∀t ∈ next,VT p t
 bst:best≤1073741824
def iQ(p:List UInt8)(F:FT)(left:Nat)(now:List Thr)(d:Nat)(M:List (Nat×Thr))(x:Nat×Thr):Prop:=cst (bC F) x.2=left∧((∃t ∈ now.take d,x ∈ bK p t)∨x ∈ M)
theorem AI.of_eq{p:List UInt8}{left best:Nat}{next:List Thr}{P Q:Nat×Thr→Prop}(h:AI p left best next P)(e:∀x,P x↔Q x):AI p left best next Q:=
 ⟨fun x hx=>h.low x ((e x).2 hx),fun t ht=>(e _).1 (h.mem t ht),h.nd,fun hn=>⟨(h.emp hn).1,fun x hx=>(h.emp hn).2 x ((e x).2 hx)⟩,h.vt,h.bst⟩
theorem eP{p:List UInt8}{F:FT}{left:Nat}{now:List Thr}{d e:Nat}{L:List (Nat×Thr)}(he:e<L.length)(x:Nat×Thr):iQ p F left now d (L.take (e+1)) x↔iQ p F left now d (L.take e) x∨(x=L[e]∧cst (bC F) x.2=left):=by
 unfold iQ;rw[List.take_add_one,List.getElem?_eq_getElem he];simp only[Option.toList_some,List.mem_append,List.mem_singleton];constructor
 ·rintro⟨h1,h2|h2|h2⟩
  ·exact .inl ⟨h1,.inl h2⟩
  ·exact .inl ⟨h1,.inr h2⟩
  ·exact .inr ⟨h2,h1⟩
 ·rintro(⟨h1,h2|h2⟩|⟨h2,h1⟩)
  ·exact⟨h1,.inl h2⟩
  ·exact⟨h1,.inr (.inl h2)⟩
  ·exact⟨h1,.inr (.inr h2)⟩
theorem AI.skip{p:List UInt8}{F:FT}{left best:Nat}{next now:List Thr}{d e:Nat}{L:List (Nat×Thr)}(h:AI p left best next (iQ p F left now d (L.take e)))(he:e<L.length)(hs:best<L[e].1∨cst (bC F) L[e].2≠left)(hne:next=[]→cst (bC F) L[e].2≠left):AI p left best next (iQ p F left now d (L.take (e+1))) where
 low:=fun x hx=>by
  rcases(eP he x).1 hx with hx|⟨rfl,hx⟩
  ·exact h.low x hx
  omega
 mem:=fun t ht=>(eP he _).2 (.inl (h.mem t ht))
 nd:=h.nd
 emp:=fun hn=>⟨(h.emp hn).1,fun x hx=>by
  grind[eP,emp]⟩
 vt:=h.vt
 bst:=h.bst
theorem AI.seen{p:List UInt8}{F:FT}{left best:Nat}{next now:List Thr}{d e:Nat}{L:List (Nat×Thr)}(h:AI p left best next (iQ p F left now d (L.take e)))(he:e<L.length)(hb:L[e].1=best)(hm:L[e].2 ∈ next):AI p left best next (iQ p F left now d (L.take (e+1))) where
 low:=fun x hx=>by
  rcases(eP he x).1 hx with hx|⟨rfl,hx⟩
  ·exact h.low x hx
  ·exact⟨by omega,fun _=>hm⟩
 mem:=fun t ht=>(eP he _).2 (.inl (h.mem t ht))
 nd:=h.nd
 emp:=fun hn=>by rw[hn]at hm;simp at hm
 vt:=h.vt
 bst:=h.bst
theorem AI.add{p:List UInt8}{F:FT}{left best:Nat}{next now:List Thr}{d e:Nat}{L:List (Nat×Thr)}(h:AI p left best next (iQ p F left now d (L.take e)))(he:e<L.length)(hb:L[e].1=best)(hc:cst (bC F) L[e].2=left)(hm:L[e].2 ∉ next)(hv:VT p L[e].2):AI p left best (next++[L[e].2]) (iQ p F left now d (L.take (e+1))) where
 low:=fun x hx=>by
  rcases(eP he x).1 hx with hx|⟨rfl,hx⟩
  ·have:=h.low x hx
   simp_all
  simp_all
 mem:=fun t ht=>by
  grind[eP,mem]
 nd:=by
  grind[nd]
 emp:=fun hn=>by simp at hn
 vt:=fun t ht=>by
  grind[vt]
 bst:=h.bst
theorem AI.new{p:List UInt8}{F:FT}{left best:Nat}{next now:List Thr}{d e:Nat}{L:List (Nat×Thr)}(h:AI p left best next (iQ p F left now d (L.take e)))(he:e<L.length)(hb:L[e].1<best)(hc:cst (bC F) L[e].2=left)(hv:VT p L[e].2):AI p left L[e].1 [L[e].2] (iQ p F left now d (L.take (e+1))) where
 low:=fun x hx=>by
  rcases(eP he x).1 hx with hx|⟨rfl,hx⟩
  ·have:=h.low x hx
   exact⟨by omega,fun e=>by omega⟩
  ·exact⟨Nat.le_refl _,fun _=>by simp⟩
 mem:=fun t ht=>by
  have:t=L[e].2:=List.mem_singleton.1 ht;subst this;exact(eP he _).2 (.inr ⟨rfl,hc⟩)
 nd:=by simp
 emp:=fun hn=>by simp at hn
 vt:=fun t ht=>by rw[List.mem_singleton.1 ht];exact hv
 bst:=by have:=h.bst;omega
theorem AI.end_{p:List UInt8}{F:FT}{left best:Nat}{next now:List Thr}(h:AI p left best next (iQ p F left now now.length [])):Adv p (bC F) now left best next where
 low:=fun t ht x hx hc=>h.low x ⟨hc,.inl ⟨t,by simp_all,hx⟩⟩
 mem:=fun t' ht'=>by
  obtain⟨h1,h2|h2⟩:=h.mem t' ht'
  all_goals simp_all
 none:=fun hn t ht x hx hc=>(h.emp hn).2 x ⟨hc,.inl ⟨t,by simp_all,hx⟩⟩
def NX(lo m:Nat)(K:Heap)(w:Value)(next:List Thr)(b':Nat):Prop:=(w=.slice none 0 0∧next=[]∧b'=m)∨(m<b'∧next≠[]∧Own lo 4 K w b' (cO gJ next)∧b'<K.length)
theorem NX.get{lo m:Nat}{K K':Heap}{w:Value}{next:List Thr}{b':Nat}(h:NX lo m K w next b')(hl:K.length≤K'.length)(hk:m<b'→∀c,K.get b'=some c→K'.get b'=some c):NX lo m K' w next b':=by
 rcases h with h|⟨h1,h2,⟨h3,⟨h4,h5⟩|⟨n,q1,q2,q3,q4⟩⟩,h6⟩
 ·exact .inl h
 ·exact .inr ⟨h1,h2,⟨h3,.inl ⟨h4,h5⟩⟩,by omega⟩
 ·exact .inr ⟨h1,h2,⟨h3,.inr ⟨n,q1,q2,q3,hk h1 _ q4⟩⟩,by omega⟩
theorem NX.le{lo m:Nat}{K:Heap}{w:Value}{next:List Thr}{b':Nat}(h:NX lo m K w next b')(hm:m<K.length):b'<K.length∧m≤b':=by
 rcases h with ⟨-,-,h⟩|⟨h1,-,-,h2⟩<;>omega
theorem NX.sl{lo m:Nat}{K:Heap}{w:Value}{next:List Thr}{b':Nat}(h:NX lo m K w next b')(hl:next.length≤30000000):SlR m 4 gJ K w next:=by
 rcases h with ⟨rfl,rfl,rfl⟩|⟨h1,h2,h3,h4⟩
 ·exact⟨by simp,.inl ⟨rfl,rfl⟩⟩
 ·exact SlR.ofOwn (by decide) kQ hl (by omega) h3
theorem yO{cp:FuncId→Option CF}{lo m t:Nat}{K:Heap}{w:Value}{next:List Thr}{b':Nat}{x:Thr}{z:List Value}{R:Value→Heap→Prop}(h:NX lo m K w next b')(hlo:lo≤m)(hm:m<K.length)(ht:K.get t=some (gJ x))(hl:next.length≤25000000)
  (k:∀v K4,NX lo m K4 v (next++[x]) K.length→K.length<K4.length→(∀i,i<K.length→i≠b'∨next=[]→K4.get i=K.get i)→R v K4):wpH cp lo (.app 4 z) [w,.slice (some ⟨t,0,none⟩) 1 1] K R:=by
 have hcl:=cX kQ next
 have fin:∀(b:Nat),Own lo 4 K w b (cO gJ next)→(∀i,i<K.length→i≠b'∨next=[]→i≠b)→wpH cp lo (.app 4 z) [w,.slice (some ⟨t,0,none⟩) 1 1] K R:=by
  intro b ho hb;refine eG (c:=gJ x) (c':=gJ x) ho (by omega) (by decide) (by decide) (by omega) ht (by simp[gJ]) (by rfl) rfl ?_;intro v' K4 ho4 hk4 hl4;refine k v' K4 (.inr ⟨hm,by simp,by grind[cO],by omega⟩) (by omega) fun i hi hne=>hk4.eq i hi (hb i hi hne)
 rcases h with ⟨rfl,rfl,rfl⟩|⟨h1,h2,h3,h4⟩
 ·exact fin K.length (Own.nil (by omega)) fun i hi _=>by omega
 grind
def NN(N:Nat→Prop)(m b':Nat):Nat→Prop:=fun b=>N b∧b≠m∧b≠b'
structure AS (H0:Heap)(lo:Nat)(H:Heap)(B:Nat)(pv:Value)(p:List UInt8)(F:FT)(N:Nat→Prop)(K:Heap)(sn next:List Thr)(w:Value)(b':Nat):Prop where
 pm:PlanM H0 lo K B pv p F (NN N H.length b')
 xb:XB B H K
 gm:K.get H.length=some (fZ sn)
 nx:NX lo H.length K w next b'
 bB:B+7<H.length
section
variable {H0:Heap}{lo:Nat}{H:Heap}{B:Nat}{pv:Value}{p:List UInt8}{F:FT}{N:Nat→Prop}{K K':Heap}{sn next:List Thr}{w:Value}{b':Nat}
theorem AS.ext(h:AS H0 lo H B pv p F N K sn next w b')(hx:Ext K K'):AS H0 lo H B pv p F N K' sn next w b':=
 ⟨h.pm.ex hx,h.xb.trans (XB.of_ext hx),hx.get h.gm,h.nx.get hx.1 fun _ c hc=>hx.get hc,h.bB⟩
theorem AS.moved(h:AS H0 lo H B pv p F N K sn next w b')(hp:PlanM H0 lo K' B pv p F (NN N H.length b'))(hx:XB B K K'):AS H0 lo H B pv p F N K' sn next w b':=by
 have:=h.bB;exact⟨hp,h.xb.trans hx,hx.get h.gm (by omega),h.nx.get hx.1 fun hm c hc=>hx.get hc (by omega),h.bB⟩
theorem AS.mlt(h:AS H0 lo H B pv p F N K sn next w b'):H.length<K.length:=Heap.get_lt h.gm
theorem AS.marked(h:AS H0 lo H B pv p F N K sn next w b')(sn':List Thr):AS H0 lo H B pv p F N (K.set H.length (some (fZ sn'))) sn' next w b':=by
 have hm:=h.mlt;have hk:=o3 K H.length (some (fZ sn'));exact⟨h.pm.keep hk h.bB fun b hb=>hb.2.1,⟨by grind,fun b hb hne=>by rw[aM (by omega)];exact h.xb.2 b hb hne⟩,aN hm,h.nx.get (by simp) fun hm c hc=>by grind[aM],h.bB⟩
theorem AS.none(h:AS H0 lo H B pv p F N K sn next w b'):AS H0 lo H B pv p F N K sn [] (.slice none 0 0) H.length:=
 ⟨h.pm.weak fun b _ hb=>⟨hb.1,hb.2.1,hb.2.1⟩,h.xb,h.gm,.inl ⟨rfl,rfl,rfl⟩,h.bB⟩
theorem AS.app{K4:Heap}{v:Value}{x:Thr}(h:AS H0 lo H B pv p F N K sn next w b')(hn:NX lo H.length K4 v (next++[x]) K.length)(hl:K.length<K4.length)(hk:∀i,i<K.length→i≠b'∨next=[]→K4.get i=K.get i):AS H0 lo H B pv p F N K4 sn (next++[x]) v K.length:=by
 have hm:=h.mlt;have hbB:=h.bB;obtain⟨z,hz,hzk,hzm⟩:∃z,(z=b'∧next≠[]∨z=K4.length+K.length)∧Keep z K K4∧H.length<z:=by
  rcases h.nx with ⟨-,hn,-⟩|⟨h1,h2,-,-⟩
  ·exact⟨_,.inr rfl,⟨by omega,fun i hi _=>hk i hi (.inr hn)⟩,by omega⟩
  ·exact⟨b',.inl ⟨rfl,h2⟩,⟨by omega,fun i hi hne=>hk i hi (.inl hne)⟩,h1⟩
 have hp2:PlanM H0 lo K B pv p F (fun b=>NN N H.length b' b∧b<K.length):=h.pm.weak fun b hb hN=>⟨hN,hb⟩;have hp3:=hp2.keep hzk (by omega) fun b hb=>by
  rcases hz with ⟨e,-⟩|e
  ·subst e;exact hb.1.2.2
  omega
 refine⟨hp3.weak fun b _ hb=>⟨hb.1.1,hb.1.2.1,by omega⟩,?_,hzk.get h.gm (by omega),hn,hbB⟩;exact⟨by omega,fun b hb hne=>(hzk.eq b (by omega) (by omega)).trans (h.xb.2 b hb hne)⟩
end
set_option linter.defProp false in
def hY:=And.intro @Int.cast_ofNat_Int (And.intro @ite_self.{1} (And.intro @fB (And.intro @cE (And.intro @cU (And.intro @ca1 (And.intro @ca6 (And.intro @caN (And.intro @ch2 (And.intro @c5 (And.intro @c1 @CB))))))))))
theorem mZ{P:Prop}(h:P:=by simp(disch:=first|omega|(simp only[aD];omega))only[evB,hY,Nat.reduceAdd,Nat.reduceMul,Nat.reduceBEq,Int.reduceToNat,Int.reduceEq, *];rfl):P:=h
theorem iO{cp:FuncId→Option CF}{lo:Nat}{l:List (Nat×E)}{chk:List E}{Q:aX}{S:List Value}{H:Heap}{vs:List (Nat×Value)}{S':List Value}(k:Q .normal S' H)(h:evSets S H l=some vs:=by exact mZ)(hc:evChk S H chk=true:=by simp(disch:=first|omega|(simp only[aD];omega))only[evB,hY,Nat.reduceAdd,Nat.reduceMul,Nat.reduceBEq,Int.reduceToNat,Int.reduceEq, *])(hS:setAll S vs=S':=by exact mZ):wpS cp lo (.sets l chk) Q S H:=eF h hc hS k
theorem vo{cp:FuncId→Option CF}{lo:Nat}{l:List (Nat×E)}{chk:List E}{Q:aX}{S:List Value}{H:Heap}{vs:List (Nat×Value)}{dst:Option Nat}{o:HOp}{a:E}{xs:List Value}(k:wpH cp lo o xs H fun v H'=>Q .normal (setD (setAll S vs) dst v) H')(h:evSets S H l=some vs:=by exact mZ)(hc:evChk S H chk=true:=by simp(disch:=first|omega|(simp only[aD];omega))only[evB,hY,Nat.reduceAdd,Nat.reduceMul,Nat.reduceBEq,Int.reduceToNat,Int.reduceEq, *])(ha:ev S H a=some xs:=by exact mZ):wpS cp lo (.hv l chk [] dst o a) Q S H:=gG h hc ha k
theorem iP{cp:FuncId→Option CF}{lo:Nat}{l:List (Nat×E)}{chk:List E}{Q:aX}{S:List Value}{H:Heap}{vs:List (Nat×Value)}{dst:Option Nat}{o:HOp}{a:E}{xs:List Value}{S':List Value}{H':Heap}{v:Value}(hcall:o.isCall=false)(k:Q .normal S' H')(h:evSets S H l=some vs:=by exact mZ)(hc:evChk S H chk=true:=by simp(disch:=first|omega|(simp only[aD];omega))only[evB,hY,Nat.reduceAdd,Nat.reduceMul,Nat.reduceBEq,Int.reduceToNat,Int.reduceEq, *])(ha:ev S H a=some xs:=by exact mZ)(ho:aR lo o xs H=some (v,H'):=by exact mZ)(hS:setD (setAll S vs) dst v=S':=by exact mZ):wpS cp lo (.hv l chk [] dst o a) Q S H:=eV hcall h hc ha ho hS k
theorem EF{cp:FuncId→Option CF}{lo:Nat}{c:E}{a b:Stm}{Q:aX}{S:List Value}{H:Heap}{t:Bool}(k1:t=true→wpS cp lo a Q S H)(k2:t=false→wpS cp lo b Q S H)(h:ev1 S H c=some (.bool t):=by exact mZ):wpS cp lo (.cond c a b) Q S H:=aF h k1 k2
theorem Ct{cf:CF}{R:Value→Heap→Prop}{S:List Value}{H:Heap}{vs:List Value}(k:R (aP vs) H)(h:evList S H cf.res=some vs:=by exact mZ):aS cf R .ret S H:=eM h k
theorem xH{H0:Heap}{lo:Nat}{H:Heap}{B A:Nat}{pv nv:Value}{p:List UInt8}{F:FT}{N:Nat→Prop}{now:List Thr}{left:Nat}(hD:p9 H0 lo B pv p F)(hN:∀b,H.length≤b→N b)(hM:PlanM H0 lo H B pv p F N)(hp:p.length≤4096)(hn:SlR A 4 gJ H nv now)(hBA:B+7<A)(hv:∀t ∈ now,VT p t)(hl:left≤1000000) :
  Ev cp lo 36 [.pointer (some ⟨B+7,0,none⟩),nv,.int .i64 ((left:Nat):Int)] H (fun r H'=>PlanM H0 lo H' B pv p F N∧XB B H H'∧∃best next v,r=.tuple #[.int .i64 ((best:Nat):Int),v]∧SlR H.length 4 gJ H' v next∧Adv p (bC F) now left best next∧best≤1073741824∧∀t ∈ next,VT p t):=by
 obtain⟨an,han⟩:=hn.len;subst han;have hb7:=Heap.get_lt hM.pl.ok.at_.g7;have hlo:=hM.pl.ok.lo;have hnl:=hn.1;refine It ?_;unfold E5 ya;simp only[kB,aA];repeat' ((first|refine iO ?_|refine iP rfl ?_);(try simp only[aA]))
 have hxG:Ext H (H++[some []]):=Ext.app _ _;have gm:Heap.get (H++[some []]) H.length=some (fZ []):=aH;have hMG:=hM.ex hxG;have hlG:(H++[some []]).length=H.length+1:=by simp
 generalize H++[some []]=G at *;have hXG:=XB.of_ext (B:=B) hxG;have hMN:PlanM H0 lo G B pv p F (NN N H.length H.length):=(hM.weak fun b hb hN=>⟨hN,by omega,by omega⟩).ex hxG;clear hM hxG;replace hN:False∨_:=.inr hN;replace hv:False∨_:=.inr hv;have hAS0:AS H0 lo H B pv p F N G [] [] (.slice none 0 0) H.length:=⟨hMN,hXG,gm,.inl ⟨rfl,rfl,rfl⟩,hb7⟩;have hAI0:AI p left 1073741824 [] (iQ p F left now 0 []):=⟨fun x hx=>by obtain⟨-,⟨t,h1,-⟩|h1⟩:=hx<;>simp at h1,fun t ht=>by simp at ht,by simp,fun _=>⟨rfl,fun x hx=>by obtain⟨-,⟨t,h1,-⟩|h1⟩:=hx<;>simp at h1⟩,fun t ht=>by simp at ht,Nat.le_refl _⟩;clear gm hMG hMN hXG;have hlm:lo≤H.length:=by omega
 refine ai (fun d S K=>∃best next w b',AS H0 lo H B pv p F N K next next w b'∧AI p left best next (iQ p F left now d [])∧∃(z:Nat→Value),S=[.pointer (some ⟨B+7,0,none⟩),z 1,.int .i64 (left:Nat),z 3,z 4,.int .i64 (best:Nat),w,.map (some H.length),z 8,z 9,z 10,.slice an now.length now.length,.int .i64 (now.length:Nat),.int .i64 (d:Nat),z 14,z 15,z 16,z 17,z 18,z 19,z 20,z 21,z 22,z 23]) now.length ?_ ?_ ?_ ?_
 ·exact⟨1073741824,[],_,_,hAS0,hAI0,aE rfl⟩
 ·rintro d S K hd ⟨best,next,w,b',-,-,z,rfl⟩
  exact⟨_,mZ,by simp⟩
 ·clear hAS0 hAI0
  rintro d S K hd ⟨best,next,w,b',hS,hI,z,rfl⟩;have hnK:=hn.xb hS.xb (by omega);obtain⟨-,⟨h1,h2⟩|⟨bn,sp,hbA2,h3,h4,hgb⟩⟩:=hnK
  ·rw[h2]at hd;simp at hd
  injection h3 with h3;subst h3;obtain⟨x,hx⟩:∃x,now[d]=x:=⟨_,rfl⟩;have hxm:x ∈ now:=hx▸List.getElem_mem hd;have hvx:=hv.resolve_left id x hxm;have hat:=lX kQ hd;rw[hx]at hat;replace hat:((cO gJ now).drop (d*4)).take 4=[.int .i64 (x.1:Nat),.int .i64 (x.2.1:Nat),.int .i64 (x.2.2.1:Nat),.int .i64 (x.2.2.2:Nat)]:=hat;have hcln:=cX kQ now;have htk:now.take (d+1)=now.take d++[x]:=by rw[List.take_add_one,List.getElem?_eq_getElem hd,hx];rfl
  have hbl:=Heap.get_lt hgb;have hvt:=rZ hp hvx;replace htk:False∨_:=.inr htk;have exV:thV x=.agg #[.int .i64 (x.1:Nat),.int .i64 (x.2.1:Nat),.int .i64 (x.2.2.1:Nat),.int .i64 (x.2.2.2:Nat)]:=rfl;have hmK:=hS.mlt;have hle:=hS.nx.le hmK;clear hxm;(try simp only[aA]);repeat' ((first|refine iO ?_|refine iP rfl ?_);(try simp only[aA]))
  have hx1:Ext K (K++[some [Value.int .i64 (x.1:Nat),.int .i64 (x.2.1:Nat),.int .i64 (x.2.2.1:Nat),.int .i64 (x.2.2.2:Nat)]]):=Ext.app _ _;have g8:Heap.get (K++[some [Value.int .i64 (x.1:Nat),.int .i64 (x.2.1:Nat),.int .i64 (x.2.2.1:Nat),.int .i64 (x.2.2.2:Nat)]]) K.length=some [.int .i64 (x.1:Nat),.int .i64 (x.2.1:Nat),.int .i64 (x.2.2.1:Nat),.int .i64 (x.2.2.2:Nat)]:=aH;have hlK1:(K++[some [Value.int .i64 (x.1:Nat),.int .i64 (x.2.1:Nat),.int .i64 (x.2.2.1:Nat),.int .i64 (x.2.2.2:Nat)]]).length=K.length+1:=by simp
  generalize K++[some [Value.int .i64 (x.1:Nat),.int .i64 (x.2.1:Nat),.int .i64 (x.2.2.1:Nat),.int .i64 (x.2.2.2:Nat)]]=K1 at *;have hS1:=hS.ext hx1;clear hS hx1 hat hgb;refine vo ?_;rw[←exV];refine aC (EZ hD (fun b hb=>⟨hN.resolve_left id b (by omega),by omega,by omega⟩) hS1.pm hp hvx) ?_;rintro r K2 ⟨hpm2,hxb2,L,hL,hr⟩;have hS2:=hS1.moved hpm2 hxb2;have hLx:∀y ∈ L,VT p y.2∧y.1≤928:=fun y hy=>⟨(mP hpm2.pl.low hvx (hL.1 y hy)).1,ui hvx (hL.1 y hy)⟩;replace hLx:False∨_:=.inr hLx;obtain⟨aL,haL⟩:=hr.len;have hLl:=hr.1;have hLb:∃bL sL,K.length<bL∧(L≠[]→aL=some ⟨bL,0,sL⟩∧bL<K2.length∧K2.get bL=some (cO dV L)):=by
   obtain⟨-,⟨q1,q2⟩|⟨bL,sL,q1,q2,q3,q4⟩⟩:=hr
   ·exact⟨K.length+1,none,by omega,fun h=>absurd q2 h⟩
   ·refine⟨bL,sL,by omega,fun _=>⟨?_,Heap.get_lt q4,q4⟩⟩
    rw[haL]at q2;injection q2
  obtain⟨bL,sL,hbL,hLb⟩:=hLb;clear hr hS1 hpm2 hxb2 g8;subst haL;replace hLb:False∨_:=.inr hLb;(try simp only[aA]);repeat' ((first|refine iO ?_|refine iP rfl ?_);(try simp only[aA]))
  refine ai (fun e S M=>∃best next w b',AS H0 lo H B pv p F N M next next w b'∧AI p left best next (iQ p F left now d (L.take e))∧bL≠b'∧K2.length≤M.length∧(L≠[]→M.get bL=some (cO dV L))∧∃(z:Nat→Value),S=[.pointer (some ⟨B+7,0,none⟩),z 1,.int .i64 (left:Nat),z 3,z 4,.int .i64 (best:Nat),w,.map (some H.length),z 8,z 9,z 10,.slice (some ⟨bn,0,sp⟩) now.length now.length,.int .i64 (now.length:Nat),.int .i64 (d:Nat),z 14,.slice aL L.length L.length,.int .i64 (L.length:Nat),.int .i64 (e:Nat),z 18,z 19,z 20,z 21,z 22,z 23]) L.length ?_ ?_ ?_ ?_
  ·exact⟨best,next,w,b',hS2,hI.of_eq fun x=>by simp[iQ],by omega,Nat.le_refl _,fun h=>((hLb.resolve_left id) h).2.2,aE rfl⟩
  ·rintro e S M he ⟨best,next,w,b',-,-,-,-,-,z,rfl⟩
   exact⟨_,mZ,by simp⟩
  ·clear hS2 hI hle
   rintro e S M he ⟨best,next,w,b',hS,hI,hbLb,hKM,hgL,z,rfl⟩;have hLne:L≠[]:=fun h=>by rw[h]at he;simp at he
   obtain⟨eaL,hbLK,-⟩:=(hLb.resolve_left id) hLne;have hgL:=hgL hLne;subst eaL;obtain⟨y,hy⟩:∃y,L[e]=y:=⟨_,rfl⟩;have hym:y ∈ L:=hy▸List.getElem_mem he;obtain⟨hvy,hy928⟩:=(hLx.resolve_left id) y hym;have hat:=lX eA he;rw[hy]at hat;replace hat:((cO dV L).drop (e*5)).take 5=[.int .i64 (y.1:Nat),.int .i64 (y.2.1:Nat),.int .i64 (y.2.2.1:Nat),.int .i64 (y.2.2.2.1:Nat),.int .i64 (y.2.2.2.2:Nat)]:=hat;have hcln:=cX eA L;have hvty:=rZ hp hvy;have hmM:=hS.mlt;have hle:=hS.nx.le hmM;have eyV:thV y.2=.agg #[.int .i64 (y.2.1:Nat),.int .i64 (y.2.2.1:Nat),.int .i64 (y.2.2.2.1:Nat),.int .i64 (y.2.2.2.2:Nat)]:=rfl;replace hI:False∨_:=.inr hI;replace hy:False∨_:=.inr hy;clear hym;(try simp only[aA]);(repeat' ((first|refine iO ?_|refine iP rfl ?_);(try simp only[aA])));have hx1:Ext M (M++[some [Value.int .i64 (y.1:Nat),.int .i64 (y.2.1:Nat),.int .i64 (y.2.2.1:Nat),.int .i64 (y.2.2.2.1:Nat),.int .i64 (y.2.2.2.2:Nat)]]):=Ext.app _ _;have g9:Heap.get (M++[some [Value.int .i64 (y.1:Nat),.int .i64 (y.2.1:Nat),.int .i64 (y.2.2.1:Nat),.int .i64 (y.2.2.2.1:Nat),.int .i64 (y.2.2.2.2:Nat)]]) M.length=some [.int .i64 (y.1:Nat),.int .i64 (y.2.1:Nat),.int .i64 (y.2.2.1:Nat),.int .i64 (y.2.2.2.1:Nat),.int .i64 (y.2.2.2.2:Nat)]:=aH;have hlM1:(M++[some [Value.int .i64 (y.1:Nat),.int .i64 (y.2.1:Nat),.int .i64 (y.2.2.1:Nat),.int .i64 (y.2.2.2.1:Nat),.int .i64 (y.2.2.2.2:Nat)]]).length=M.length+1:=by simp
   generalize M++[some [Value.int .i64 (y.1:Nat),.int .i64 (y.2.1:Nat),.int .i64 (y.2.2.1:Nat),.int .i64 (y.2.2.2.1:Nat),.int .i64 (y.2.2.2.2:Nat)]]=M1 at *;have hS1:=hS.ext hx1;have hgL1:=hx1.get hgL;clear hS hx1 hat hgL;have hbst:=(hI.resolve_left id).bst;by_cases hwb:best<y.1
   ·have hgt:decide (((y.1:Nat):Int)>((best:Nat):Int))=true:=by simp;omega
    have hsk:AI p left best next (iQ p F left now d (L.take (e+1))):=(hI.resolve_left id).skip he (.inl (by rw[hy.resolve_left id];exact hwb)) fun hn=>by
     have:=((hI.resolve_left id).emp hn).1;omega
    replace hsk:False∨_:=.inr hsk;clear hwb;refine j9 (t:=false) (by simp(disch:=first|omega|(simp only[aD];omega))only[evB,hY,Nat.reduceAdd,Nat.reduceMul,Nat.reduceBEq,Int.reduceToNat,Int.reduceEq, *];try rfl) (by simp(disch:=first|omega|(simp only[aD];omega))only[evB,hY,Nat.reduceAdd,Nat.reduceMul,Nat.reduceBEq,Int.reduceToNat,Int.reduceEq, *]) (by simp(disch:=first|omega|(simp only[aD];omega))only[evB,hY,Nat.reduceAdd,Nat.reduceMul,Nat.reduceBEq,Int.reduceToNat,Int.reduceEq, *];try rfl) (fun h=>by cases h) (fun _=>?_);(try simp only[aA]);refine aF (t:=true) (by simp(disch:=first|omega|(simp only[aD];omega))only[evB,hY,Nat.reduceAdd,Nat.reduceMul,Nat.reduceBEq,Int.reduceToNat,Int.reduceEq, *];try rfl) (fun h=>?_) (fun h=>by cases h);clear h;(try simp only[aA]);(repeat' ((first|refine iO ?_|refine iP rfl ?_);(try simp only[aA])));exact⟨best,next,w,b',hS1,hsk.resolve_left id,hbLb,by omega,fun _=>hgL1,aE rfl⟩
   have hgt:decide (((y.1:Nat):Int)>((best:Nat):Int))=false:=by simp;omega
   refine j9 (t:=true) (by simp(disch:=first|omega|(simp only[aD];omega))only[evB,hY,Nat.reduceAdd,Nat.reduceMul,Nat.reduceBEq,Int.reduceToNat,Int.reduceEq, *];try rfl) (by simp(disch:=first|omega|(simp only[aD];omega))only[evB,hY,Nat.reduceAdd,Nat.reduceMul,Nat.reduceBEq,Int.reduceToNat,Int.reduceEq, *]) (by simp(disch:=first|omega|(simp only[aD];omega))only[evB,hY,Nat.reduceAdd,Nat.reduceMul,Nat.reduceBEq,Int.reduceToNat,Int.reduceEq, *];try rfl) (fun _=>⟨_,mZ,?_⟩) (fun h=>by cases h);rw[←eyV];refine aC (xq hS1.pm.pl.ok hp hvy) ?_;rintro r M2 ⟨hx2,rfl⟩;have hS2:=hS1.ext hx2;have hgL2:=hx2.get hgL1;have h9:=hx2.get g9;have hx21:=hx2.1;clear hS1 hgL1 g9 hx2;by_cases hcl:cst (bC F) y.2=left
   ·have hceq:decide (((cst (bC F) y.2:Nat):Int)≠((left:Nat):Int))=false:=by simp;omega
    have hcl2:False∨cst (bC F) y.2=left:=.inr hcl;clear hcl;(try simp only[aA]);refine aF (t:=false) (by simp(disch:=first|omega|(simp only[aD];omega))only[evB,hY,Nat.reduceAdd,Nat.reduceMul,Nat.reduceBEq,Int.reduceToNat,Int.reduceEq, *];try rfl) (fun h=>by cases h) (fun h=>?_);clear h;(try simp only[aA]);clear hceq;refine dq (fun S M3=>∃next1 w1 b1,AS H0 lo H B pv p F N M3 next1 next1 w1 b1∧bL≠b1∧M.length≠b1∧M2.length≤M3.length∧M3.get bL=some (cO dV L)∧M3.get M.length=some [.int .i64 (y.1:Nat),.int .i64 (y.2.1:Nat),.int .i64 (y.2.2.1:Nat),.int .i64 (y.2.2.2.1:Nat),.int .i64 (y.2.2.2.2:Nat)]∧((False∨y.1=best∧next1=next)∨(False∨y.1<best∧next1=[]))∧∃(z:Nat→Value),S=[.pointer (some ⟨B+7,0,none⟩),z 1,.int .i64 (left:Nat),z 3,z 4,.int .i64 (y.1:Nat),w1,.map (some H.length),z 8,.pointer (some ⟨M.length,0,none⟩),z 10,.slice (some ⟨bn,0,sp⟩) now.length now.length,.int .i64 (now.length:Nat),.int .i64 (d:Nat),z 14,.slice (some ⟨bL,0,sL⟩) L.length L.length,.int .i64 (L.length:Nat),.int .i64 (e:Nat),z 18,z 19,z 20,z 21,z 22,z 23]) ?_ ?_
    ·refine EF (fun h=>?_) (fun h=>?_)
     ·have hlt:y.1<best:=by simp only[decide_eq_true_eq]at h;omega
      clear h;have hcl:=va (lo:=lo) hS2.gm (by omega);have hS3:=(hS2.marked []).none;(try simp only[aA])
      ((first|refine iO ?_|refine iP rfl ?_);(try simp only[aA]))
      ((first|refine iO ?_|refine iP rfl ?_);(try simp only[aA]))
      refine eV rfl (by simp(disch:=first|omega|(simp only[aD];omega))only[evB,hY,Nat.reduceAdd,Nat.reduceMul,Nat.reduceBEq,Int.reduceToNat,Int.reduceEq, *];try rfl) (by simp(disch:=first|omega|(simp only[aD];omega))only[evB,hY,Nat.reduceAdd,Nat.reduceMul,Nat.reduceBEq,Int.reduceToNat,Int.reduceEq, *]) (by simp(disch:=first|omega|(simp only[aD];omega))only[evB,hY,Nat.reduceAdd,Nat.reduceMul,Nat.reduceBEq,Int.reduceToNat,Int.reduceEq, *];try rfl) hcl (by simp(disch:=first|omega|(simp only[aD];omega))only[evB,hY,Nat.reduceAdd,Nat.reduceMul,Nat.reduceBEq,Int.reduceToNat,Int.reduceEq, *];try rfl) ?_;refine⟨[],_,_,hS3,by omega,by omega,by simp,by rw[aM (by omega)];exact hgL2,by rw[aM (by omega)];exact h9,.inr (.inr ⟨hlt,rfl⟩),aE rfl⟩
     ·have hge:y.1=best:=by simp only[decide_eq_false_iff_not]at h;omega
      clear h;(try simp only[aA]);refine⟨next,w,b',hS2,hbLb,by omega,Nat.le_refl _,hgL2,h9,.inl (.inr ⟨hge,rfl⟩),aE (by rw[hge];rfl)⟩
    clear hS2 hgL2 h9 hbLb hle;rintro S M3 ⟨next1,w1,b1,hS3,hbLb,hMb,hM3,hgL3,h93,hcase,z,rfl⟩;have hmget:=vu (t:=y.2) hS3.gm;rw[eyV]at hmget;have hmM3:=hS3.mlt;have hnx:next1.length≤25000000:=by
     have:=ru hp (hI.resolve_left id).nd (hI.resolve_left id).vt;rcases hcase with h|h
     ·rw[(h.resolve_left id).2];exact this
     ·rw[(h.resolve_left id).2];simp
    replace hcase:False∨_:=.inr hcase;replace hcl2:False∨_:=hcl2;by_cases hin:y.2 ∈ next1
    ·have hdi:decide (y.2 ∈ next1)=true:=by simpa using hin
     rw[hdi]at hmget;have hAI:AI p left y.1 next1 (iQ p F left now d (L.take (e+1))):=by
      rcases hcase.resolve_left id with h|h
      ·obtain⟨h1,h2⟩:=h.resolve_left id
       rw[h1,h2];exact(hI.resolve_left id).seen he (by rw[hy.resolve_left id,h1]) (by rw[hy.resolve_left id,←h2];exact hin)
      ·rw[(h.resolve_left id).2]at hin;simp at hin
     replace hAI:False∨_:=.inr hAI;clear hin hdi hgt hbst hcase;(try simp only[aA]);refine aF (t:=false) (by simp(disch:=first|omega|(simp only[aD];omega))only[evB,hY,Nat.reduceAdd,Nat.reduceMul,Nat.reduceBEq,Int.reduceToNat,Int.reduceEq, *];try rfl) (fun h=>by cases h) (fun h=>?_);clear h;(try simp only[aA]);(repeat' ((first|refine iO ?_|refine iP rfl ?_);(try simp only[aA])));exact⟨y.1,next1,w1,b1,hS3,hAI.resolve_left id,hbLb,by omega,fun _=>hgL3,aE rfl⟩
    ·have hdi:decide (y.2 ∈ next1)=false:=by simpa using hin
     rw[hdi]at hmget;have hAI:AI p left y.1 (next1++[y.2]) (iQ p F left now d (L.take (e+1))):=by
      rcases hcase.resolve_left id with h|h
      ·obtain⟨h1,h2⟩:=h.resolve_left id
       rw[h2]at hin ⊢;rw[h1];have:=(hI.resolve_left id).add he (by rw[hy.resolve_left id,h1]) (by rw[hy.resolve_left id];exact hcl2.resolve_left id) (by rw[hy.resolve_left id];exact hin) (by rw[hy.resolve_left id];exact hvy);rw[hy.resolve_left id]at this;exact this
      ·obtain⟨h1,h2⟩:=h.resolve_left id
       rw[h2];have:=(hI.resolve_left id).new he (by rw[hy.resolve_left id];exact h1) (by rw[hy.resolve_left id];exact hcl2.resolve_left id) (by rw[hy.resolve_left id];exact hvy);rw[hy.resolve_left id]at this;exact this
     replace hAI:False∨_:=.inr hAI;have hms:=wR (t:=y.2) (lo:=lo) hS3.gm (by omega) hin;rw[eyV]at hms;have hS4:=hS3.marked (next1++[y.2]);have g94:Heap.get (M3.set H.length (some (fZ (next1++[y.2])))) M.length=some [.int .i64 (y.1:Nat),.int .i64 (y.2.1:Nat),.int .i64 (y.2.2.1:Nat),.int .i64 (y.2.2.2.1:Nat),.int .i64 (y.2.2.2.2:Nat)]:=by rw[aM (by omega)];exact h93
     have gL4:Heap.get (M3.set H.length (some (fZ (next1++[y.2])))) bL=some (cO dV L):=by rw[aM (by omega)];exact hgL3
     have hl4:(M3.set H.length (some (fZ (next1++[y.2])))).length=M3.length:=by simp
     have hKM3:K2.length≤M3.length:=by omega
     clear hin hdi hgt hbst hcase;(try simp only[aA]);refine aF (t:=true) (by simp(disch:=first|omega|(simp only[aD];omega))only[evB,hY,Nat.reduceAdd,Nat.reduceMul,Nat.reduceBEq,Int.reduceToNat,Int.reduceEq, *];try rfl) (fun h=>?_) (fun h=>by cases h);clear h;(try simp only[aA]);refine eV rfl (by simp(disch:=first|omega|(simp only[aD];omega))only[evB,hY,Nat.reduceAdd,Nat.reduceMul,Nat.reduceBEq,Int.reduceToNat,Int.reduceEq, *];try rfl) (by simp(disch:=first|omega|(simp only[aD];omega))only[evB,hY,Nat.reduceAdd,Nat.reduceMul,Nat.reduceBEq,Int.reduceToNat,Int.reduceEq, *]) (by simp(disch:=first|omega|(simp only[aD];omega))only[evB,hY,Nat.reduceAdd,Nat.reduceMul,Nat.reduceBEq,Int.reduceToNat,Int.reduceEq, *];try rfl) hms (by simp(disch:=first|omega|(simp only[aD];omega))only[evB,hY,Nat.reduceAdd,Nat.reduceMul,Nat.reduceBEq,Int.reduceToNat,Int.reduceEq, *];try rfl) ?_;clear hmget hms hS3 h93 hgL3;generalize M3.set H.length (some (fZ (next1++[y.2])))=M4 at *;(try simp only[aA])
     ((first|refine iO ?_|refine iP rfl ?_);(try simp only[aA]))
     have hx5:Ext M4 (M4++[some (gJ y.2)]):=Ext.app _ _;have hS5:=hS4.ext hx5;have hle4:=hS4.nx.le hS4.mlt;refine vo ?_;refine yO (t:=M3.length) (x:=y.2) hS5.nx hlm hS5.mlt (by rw[←hl4];exact aH) hnx ?_;intro v6 M6 hnx6 hl6 hk6;have hS6:=hS5.app hnx6 hl6 hk6;have hgL6:M6.get bL=some (cO dV L):=by
      have h1:=Heap.get_lt gL4;rw[hk6 bL (by simp;omega) (.inl hbLb)];exact hx5.get gL4
     have hl5:(M4++[some (gJ y.2)]).length=M4.length+1:=by simp
     have hbL4:=Heap.get_lt gL4;have hbn6:bL≠(M4++[some (gJ y.2)]).length:=by omega
     have hl6':(M4++[some (gJ y.2)]).length<M6.length:=hl6;have hKM6:K2.length≤M6.length:=by omega
     clear hl5;clear hk6 hnx6;(try simp only[aA]);(repeat' ((first|refine iO ?_|refine iP rfl ?_);(try simp only[aA])));exact⟨y.1,next1++[y.2],v6,_,hS6,hAI.resolve_left id,hbn6,hKM6,fun _=>hgL6,aE rfl⟩
   ·have hceq:decide (((cst (bC F) y.2:Nat):Int)≠((left:Nat):Int))=true:=by simp;omega
    have hsk:AI p left best next (iQ p F left now d (L.take (e+1))):=(hI.resolve_left id).skip he (.inr (by rw[hy.resolve_left id];exact hcl)) fun hn=>by rw[hy.resolve_left id];exact hcl
    replace hsk:False∨_:=.inr hsk;clear hcl;(try simp only[aA]);refine aF (t:=true) (by simp(disch:=first|omega|(simp only[aD];omega))only[evB,hY,Nat.reduceAdd,Nat.reduceMul,Nat.reduceBEq,Int.reduceToNat,Int.reduceEq, *];try rfl) (fun h=>?_) (fun h=>by cases h);clear h;(try simp only[aA]);(repeat' ((first|refine iO ?_|refine iP rfl ?_);(try simp only[aA])));exact⟨best,next,w,b',hS2,hsk.resolve_left id,hbLb,by omega,fun _=>hgL2,aE rfl⟩
  ·clear hS2 hI hle hmK
   rintro S M ⟨best,next,w,b',hS,hI,hbLb,hKM,hgL,z,rfl⟩;rw[List.take_length]at hI;have hI2:AI p left best next (iQ p F left now (d+1) []):=hI.of_eq fun y=>by
    unfold iQ;rw[htk.resolve_left id];simp only[List.mem_append,List.mem_singleton,List.not_mem_nil,or_false];constructor
    ·rintro⟨h1,⟨t,h2,h3⟩|h2⟩
     ·exact⟨h1,t,.inl h2,h3⟩
     ·exact⟨h1,x,.inr rfl,hL.1 y h2⟩
    ·rintro⟨h1,t,h2|rfl,h3⟩
     ·exact⟨h1,.inl ⟨t,h2,h3⟩⟩
     ·exact⟨h1,.inr (hL.2 y h3 h1)⟩
   (try simp only[aA]);(repeat' ((first|refine iO ?_|refine iP rfl ?_);(try simp only[aA])));exact⟨best,next,w,b',hS,hI2,aE rfl⟩
 ·clear hAS0 hAI0
  rintro S K ⟨best,next,w,b',hS,hI,z,rfl⟩;have hnx:=ru hp hI.nd hI.vt;have hm:=hS.mlt;(try simp only[aA]);repeat' ((first|refine iO ?_|refine iP rfl ?_);(try simp only[aA]))
  refine Ct ?_;exact⟨hS.pm.weak fun b _ hb=>hb.1,hS.xb,best,next,w,rfl,hS.nx.sl (by omega),hI.end_,hI.bst,hI.vt⟩
theorem zY{p:List UInt8}{T:Tab}(hl:∀i,i≤p.length→LowA p T i):∀j,j≤p.length→T.tx (p.length-j) 0≤2*j
 | 0,_=>by
  have:=((hl p.length (Nat.le_refl _)).e0 rfl).2 0 (by decide)
  simp_all
 | j+1,hj=>by
  have ih:=zY hl j (by omega);have:=(hl (p.length-(j+1)) (by omega)).by1 (by omega) 0 (by decide)
  grind
theorem xM{lo bw t n L:Nat}{K:Heap}{pre rest:List Value}{x y:Value}{z:List Value}(hg:K.get bw=some (pre++y::rest))(hn:pre.length=n)(hL:n<L)(hlo:lo≤bw)(ht:K.get t=some [x])(hx:x.oneCell'=true) :
  aR lo (.app 1 z) [.slice (some ⟨bw,0,none⟩) n L,.slice (some ⟨t,0,none⟩) 1 1] K=some (.slice (some ⟨bw,0,none⟩) (n+1) L,K.set bw (some (pre++x::rest))):=by
 have h1:oneCells [x]=true:=by simp[oneCells,hx]
 simp only[aR,hsem];rw[cells_get ht (by simp)];simp only[Option.bind_some,List.drop_zero];rw[show[x].take (1*1)=[x] from rfl,h1,if_pos rfl];simp only[bI,if_pos (show n+1≤L by omega),true_or,if_true];rw[iY hg hlo (by simp;omega)];simp only[Option.map_some,Option.some.injEq,Prod.mk.injEq,true_and];congr 2;unfold putCells;rw[Nat.zero_add,Nat.mul_one,←hn,List.take_left];simp
def I7(p:List UInt8)(H':Heap)(r:Value):Prop:=∃(u:Value) (ws:List Nat) (T:Tab),r=.tuple #[u,.int .i64 0]∧SlN H' u ws∧(∀i,i≤p.length→LowA p T i)∧(∀i,i≤p.length→AttA p T i)∧ws.length=T.tx 0 0∧BestIn (Acc p (0,0,0,0)) ws
theorem qL{lo:Nat}{H:Heap}{v:Value}{p:List UInt8}(hD:∀{H0:Heap} {lo B:Nat} {pv:Value} {F:FT},p9 H0 lo B pv p F)(hlo:lo≤H.length)(hv:Sl bZ H v p)(hp:p.length≤4096) :
  Ev cp lo 20 [v] H (fun r H'=>Ext H H'∧I7 p H' r):=by
 obtain⟨ad,c0,rfl⟩:=hv.len;refine HM ?_;unfold EE x9;simp only[kB,aA];repeat' ((first|refine iO ?_|refine iP rfl ?_);(try simp only[aA]))
 refine EF (fun h=>?_) (fun h=>?_)
 ·grind
 clear h;(try simp only[aA]);refine vo ?_;refine aC (yF hlo hv hp) ?_;rintro r K ⟨F,rfl,hPl,hB⟩;have hMK:PlanM H lo K H.length (.slice ad p.length c0) p F (fun _=>True):=⟨hPl,[],hB,by simp,fun e he=>by simp at he⟩;have hKl:=hPl.ok.ext.1;have hg7:=Heap.get_lt hPl.ok.at_.g7;have htx:=zY hPl.low p.length (Nat.le_refl _);rw[Nat.sub_self]at htx;have hlow:=hPl.low;have hatt:=hPl.att;clear hPl hB;(try simp only[aA]);repeat' ((first|refine iO ?_|refine iP rfl ?_);(try simp only[aA]))
 have hx1:Ext K (K++[some [Value.int .i64 0,.int .i64 0,.int .i64 0,.int .i64 0]]):=Ext.app _ _;have gt:Heap.get (K++[some [Value.int .i64 0,.int .i64 0,.int .i64 0,.int .i64 0]]) K.length=some [Value.int .i64 0,.int .i64 0,.int .i64 0,.int .i64 0]:=aH;have hlK1:(K++[some [Value.int .i64 0,.int .i64 0,.int .i64 0,.int .i64 0]]).length=K.length+1:=by simp
 generalize K++[some [Value.int .i64 0,.int .i64 0,.int .i64 0,.int .i64 0]]=K1 at *;have hM1:=hMK.ex hx1;clear hMK;have hvt0:VT p (0,0,0,0):=⟨Nat.zero_le _,by decide,rfl⟩;refine vo ?_;refine aC (xq (t:=(0,0,0,0)) hM1.pl.ok hp hvt0) ?_;rintro r K2 ⟨hx2,rfl⟩;have hM2:=hM1.ex hx2;have gt2:=hx2.get gt;have hx21:=hx2.1;have hcst:cst (bC F) (0,0,0,0)=(bC F).tx 0 0:=rfl;rw[hcst];have hL:(bC F).tx 0 0≤8192:=by omega
 have hNow:=JY (p:=p) (T:=bC F);generalize hTx:(bC F).tx 0 0=L at *;clear gt hM1 hcst hvt0 htx;replace hTx:False∨_:=.inr hTx;replace hlow:False∨_:=.inr hlow;replace hatt:False∨_:=.inr hatt;(try simp only[aA]);repeat' ((first|refine iO ?_|refine iP rfl ?_);(try simp only[aA]))
 have hx3:Ext K2 (K2++[some (fM (List.replicate L 0))]):=Ext.app _ _;have gw:Heap.get (K2++[some (fM (List.replicate L 0))]) K2.length=some ([]++List.replicate L (.int .i64 0)):=by
  simp_all[aH,fM]
 have hM3:PlanM H lo (K2++[some (fM (List.replicate L 0))]) H.length (.slice ad p.length c0) p F (fun b=>b≠K2.length):=(hM2.weak fun b hb _=>by omega).ex hx3;have hS3:SlR (H.length+8) 4 gJ (K2++[some (fM (List.replicate L 0))]) (.slice (some ⟨K.length,0,none⟩) 1 1) [(0,0,0,0)]:=⟨by simp,.inr ⟨K.length,none,by omega,rfl,.inl rfl,hx3.get gt2⟩⟩;have hl3:(K2++[some (fM (List.replicate L 0))]).length=K2.length+1:=by simp
 generalize K2++[some (fM (List.replicate L 0))]=K3 at *;clear hM2 gt2 hx3;generalize hbw:K2.length=bw at *;have hbwB:H.length+7<bw:=by omega
 replace hbw:False∨_:=.inr hbw;have hE:=hM3.pl.ok.ext.1;refine bk (fun m S K=>∃(now:List Thr) (ws:List Nat) (left:Nat) (nv:Value),left=m∧ws.length+left=L∧PlanM H lo K H.length (.slice ad p.length c0) p F (fun b=>b≠bw)∧K.get bw=some (ws.map ag++List.replicate left (.int .i64 0))∧SlR (H.length+8) 4 gJ K nv now∧Now p (bC F) now ws left∧∃(z:Nat→Value),S=[.slice ad p.length c0,z 1,z 2,.pointer (some ⟨H.length+7,0,none⟩),nv,.int .i64 (left:Nat),.slice (some ⟨bw,0,none⟩) ws.length L,z 7,z 8,z 9,z 10,z 11,z 12,z 13,z 14,z 15,z 16]) L ?_ ?_
 ·exact⟨[(0,0,0,0)],[],L,_,rfl,by simp,hM3,by simp_all,hS3,hNow,aE rfl⟩
 clear hM3 gw hS3 hNow hl3 hE;rintro m S K4 ⟨now,ws,left,nv,rfl,hws,hM,gw,hS,hNow,z,rfl⟩;by_cases h0:left=0
 ·subst h0
  have hbest:=AX (hlow.resolve_left id) (hatt.resolve_left id) (by simp_all) hNow;have hwsL:ws.length=L:=by omega
  replace hbest:False∨_:=.inr hbest;replace hwsL:False∨_:=.inr hwsL;clear hws;(try simp only[aA]);refine aF (t:=false) (by rfl) (fun h=>by cases h) (fun h=>?_);clear h;(try simp only[aA]);repeat' ((first|refine iO ?_|refine iP rfl ?_);(try simp only[aA]))
  refine Ct ?_;refine⟨hM.pl.ok.ext,_,ws,bC F,rfl,.inr ⟨bw,0,none,L,ws.map ag,rfl,by simp_all,?_,by simp,.inl rfl,by simp_all⟩,hlow.resolve_left id,hatt.resolve_left id,by simp_all,hbest.resolve_left id⟩
  grind
 ·obtain⟨l,rfl⟩:∃l,left=l+1:=⟨left-1,by omega⟩
  have hvn:∀t ∈ now,VT p t:=fun t ht=>(hNow.ok t ht).1;have hbwl:=Heap.get_lt gw;have el:((l+1:Nat):Int)-1=((l:Nat):Int):=by omega
  have hlo2:=hM.pl.ok.lo;(try simp only[aA]);refine EF (fun h=>?_) (fun h=>?_)
  ·clear h
   (try simp only[aA]);(repeat' ((first|refine iO ?_|refine iP rfl ?_);(try simp only[aA])));refine vo ?_;refine aC (xH hD (fun b hb=>by omega) hM hp hS (by omega) hvn (by omega)) ?_;rintro r K5 ⟨hM5,hX5,best,next,v5,rfl,hS5,hAdv,hb5,hv5⟩;have hNow5:=yM (hlow.resolve_left id) (hatt.resolve_left id) (by omega) hNow hAdv;have gw5:=hX5.get gw (by omega);(try simp only[aA]);(repeat' ((first|refine iO ?_|refine iP rfl ?_);(try simp only[aA])));have hx6:Ext K5 (K5++[some [.int .i64 ((best:Nat):Int)]]):=Ext.app _ _;have hap:=xM (lo:=lo) (t:=K5.length) (z:=[.int .i64 0]) (x:=.int .i64 ((best:Nat):Int)) (hx6.get gw5) (n:=ws.length) (L:=L) (by simp) (by omega) (by omega) aH rfl;have hM6:=hM5.ex hx6;have hS6:=hS5.mono hx6;have gw6:=hx6.get gw5;generalize K5++[some [.int .i64 ((best:Nat):Int)]]=K6 at *;have hk7:=o3 K6 bw (some (ws.map ag++.int .i64 ((best:Nat):Int)::List.replicate l (.int .i64 0)));have hM7:=hM6.keep hk7 hbwB (fun b hb=>hb);have hS7:=(hS6.set (b:=bw) (x:=some (ws.map ag++.int .i64 ((best:Nat):Int)::List.replicate l (.int .i64 0))) (hS6.low (by omega))).weak (A':=H.length+8) (by omega);have gw7:Heap.get (K6.set bw (some (ws.map ag++.int .i64 ((best:Nat):Int)::List.replicate l (.int .i64 0)))) bw=some ((ws++[best]).map ag++List.replicate l (.int .i64 0)):=by
    grind[aN,Heap.get_lt]
   (try simp only[aA]);(repeat' ((first|refine iO ?_|refine iP rfl ?_);(try simp only[aA])));exact⟨l,by omega,next,ws++[best],l,v5,rfl,by grind,hM7,gw7,hS7,hNow5,aE (by simp_all)⟩
  simp_all
theorem uS{lo:Nat}{H:Heap}{v:Value}{p:List UInt8}(hD:∀{H0:Heap} {lo B:Nat} {pv:Value} {F:FT},p9 H0 lo B pv p F)(hlo:lo≤H.length)(hv:Sl bZ H v p)(hp:p.length≤4096) :
  Ev cp lo 22 [v] H (fun r H'=>Ext H H'∧∃(ws:List Nat) (T:Tab),r=.tuple #[.int .i64 (ws.length:Nat),.int .i64 0]∧(∀i,i≤p.length→LowA p T i)∧(∀i,i≤p.length→AttA p T i)∧ws.length=T.tx 0 0∧BestIn (Acc p (0,0,0,0)) ws):=by
 refine HN ?_;unfold EM ye;simp only[kB,aA];repeat' ((first|refine iO ?_|refine iP rfl ?_);(try simp only[aA]))
 refine vo ?_;refine aC (qL hD hlo hv hp) ?_;rintro r K ⟨hx,u,ws,T,rfl,hu,h1,h2,h3,h4⟩;obtain⟨a,c,rfl⟩:=hu.len;replace h1:False∨_:=.inr h1;replace h2:False∨_:=.inr h2;replace h3:False∨_:=.inr h3;replace h4:False∨_:=.inr h4;(try simp only[aA]);repeat' ((first|refine iO ?_|refine iP rfl ?_);(try simp only[aA]))
 refine Ct ?_;exact⟨hx,ws,T,rfl,h1.resolve_left id,h2.resolve_left id,h3.resolve_left id,h4.resolve_left id⟩
end Go.Proofs.YtgpolmomghejoaaDoor
