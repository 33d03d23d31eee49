/- Lemmas. -/
import Derived.Test.YtgpolmomghejoaaDoorE23
set_option linter.unusedVariables false
set_option linter.unusedSimpArgs false
set_option linter.unusedSectionVars false
namespace Go.Proofs.YtgpolmomghejoaaDoor
open Go.Abs
set_option maxRecDepth 20000
def XB(B:Nat)(H H':Heap):Prop:=H.length≤H'.length∧∀b,b<H.length→b≠B→H'.get b=H.get b
theorem XB.refl(B:Nat)(H:Heap):XB B H H:=⟨Nat.le_refl _,fun _ _ _=>rfl⟩
theorem XB.of_ext{B:Nat}{H H':Heap}(h:Ext H H'):XB B H H':=⟨h.1,fun b hb _=>h.2 b hb⟩
theorem XB.trans{B:Nat}{H H1 H2:Heap}(h:XB B H H1)(h2:XB B H1 H2):XB B H H2:=⟨Nat.le_trans h.1 h2.1,fun b hb hne=>(h2.2 b (Nat.lt_of_lt_of_le hb h.1) hne).trans (h.2 b hb hne)⟩
theorem XB.get{B:Nat}{H H':Heap}(h:XB B H H'){b:Nat}{c:List Value}(hc:H.get b=some c)(hne:b≠B):H'.get b=some c:=(h.2 b (Heap.get_lt hc) hne).trans hc
def lh(es:List ((Nat×Nat)×Value)):List Value:=es.flatMap fun e=>[.agg #[.int .i64 (e.1.1:Nat),.int .i64 (e.1.2:Nat)],e.2]
def MapOK(H:Heap)(B:Nat)(p:List UInt8)(N:Nat→Prop):Prop:=∃es,H.get B=some (lh es)∧True∧∀e ∈ es,e.1.2≤dgA p e.1.1∧1≤e.1.2∧e.1.1≤p.length∧∃b sp,B<b∧N b∧e.2=.slice (some ⟨b,0,sp⟩) (dF p e.1.1 e.1.2).length (dF p e.1.1 e.1.2).length∧H.get b=some ((dF p e.1.1 e.1.2).map ag)
theorem MapOK.ext{H H':Heap}{B:Nat}{p:List UInt8}{N:Nat→Prop}(h:MapOK H B p N)(hx:Ext H H'):MapOK H' B p N:=by
 obtain⟨es,h1,h2,h3⟩:=h;refine⟨es,hx.get h1,h2,fun e he=>?_⟩;obtain⟨q1,q2,q3,b,sp,q4,qn,q5,q6⟩:=h3 e he;exact⟨q1,q2,q3,b,sp,q4,qn,q5,hx.get q6⟩
structure PlanM (H0:Heap)(lo:Nat)(H:Heap)(B:Nat)(pv:Value)(p:List UInt8)(F:FT)(N:Nat→Prop):Prop where
 pl:Plan H0 lo H B pv p F
 mp:MapOK H B p N
theorem Plan.ex{H0:Heap}{lo:Nat}{H H':Heap}{B:Nat}{pv:Value}{p:List UInt8}{F:FT}(h:Plan H0 lo H B pv p F)(hx:Ext H H'):Plan H0 lo H' B pv p F:=⟨h.ok.ex hx,h.att,h.low⟩
theorem PlanM.ex{H0:Heap}{lo:Nat}{H H':Heap}{B:Nat}{pv:Value}{p:List UInt8}{F:FT}{N:Nat→Prop}(h:PlanM H0 lo H B pv p F N)(hx:Ext H H'):PlanM H0 lo H' B pv p F N:=⟨h.pl.ex hx,h.mp.ext hx⟩
theorem PlanM.weak{H0:Heap}{lo:Nat}{H:Heap}{B:Nat}{pv:Value}{p:List UInt8}{F:FT}{N N':Nat→Prop}(h:PlanM H0 lo H B pv p F N)(hN:∀b,b<H.length→N b→N' b):PlanM H0 lo H B pv p F N':=by
 obtain⟨es,h1,h2,h3⟩:=h.mp;refine⟨h.pl,es,h1,h2,fun e he=>?_⟩;obtain⟨q1,q2,q3,b,sp,q4,qn,q5,q6⟩:=h3 e he;exact⟨q1,q2,q3,b,sp,q4,hN b (Heap.get_lt q6) qn,q5,q6⟩
theorem PlanM.keep{H0:Heap}{lo x:Nat}{H H':Heap}{B:Nat}{pv:Value}{p:List UInt8}{F:FT}{N:Nat→Prop}(h:PlanM H0 lo H B pv p F N)(hk:Keep x H H')(hx:B+7<x)(hN:∀b,N b→b≠x):PlanM H0 lo H' B pv p F N:=by
 have hlow:=h.pl.ok.low;have hext:Ext H0 H':=hk.ext h.pl.ok.ext (by omega);obtain⟨es,h1,h2,h3⟩:=h.mp;refine⟨⟨⟨⟨hk.get h.pl.ok.at_.g7 (by omega),fun k h1 h6=>hk.get (h.pl.ok.at_.gk k h1 h6) (by omega),h.pl.ok.pay.mono hext⟩,hext,hlow,h.pl.ok.lo,h.pl.ok.pay,h.pl.ok.big⟩,h.pl.att,h.pl.low⟩,es,hk.get h1 (by omega),h2,fun e he=>?_⟩;obtain⟨q1,q2,q3,b,sp,q4,qn,q5,q6⟩:=h3 e he;exact⟨q1,q2,q3,b,sp,q4,qn,q5,hk.get q6 (hN b qn)⟩
theorem o3(H:Heap)(x:Nat)(v:Option (List Value)):Keep x H (H.set x v):=⟨by simp,fun i _ hne=>aM (fun e=>hne e.symm)⟩
theorem SlR.xb{α:Type}{A w B:Nat}{enc:α→List Value}{H H':Heap}{v:Value}{l:List α}(h:SlR A w enc H v l)(hx:XB B H H')(hB:B<A):SlR A w enc H' v l:=by
 obtain⟨h1,h2|⟨b,sp,h0,h3,h4,h5⟩⟩:=h
 ·exact⟨h1,.inl h2⟩
 ·exact⟨h1,.inr ⟨b,sp,h0,h3,h4,hx.get h5 (by omega)⟩⟩
def MvL(p:List UInt8)(F:FT)(t:Thr)(left:Nat)(L:List (Nat×Thr)):Prop:=(∀x ∈ L,x ∈ bK p t)∧∀x ∈ bK p t,cst (bC F) x.2=left→x ∈ L
theorem MvL.all{p:List UInt8}{F:FT}{t:Thr}{left:Nat}:MvL p F t left (bK p t):=⟨fun _ h=>h,fun _ h _=>h⟩
def Lst(lo A:Nat)(H:Heap)(v:Value)(l:List (Nat×Thr)):Prop:=(∃b,A≤b∧Own lo 5 H v b (cO dV l))∨∃b,A≤b∧v=.slice (some ⟨b,0,none⟩) l.length l.length∧0<l.length∧H.get b=some (cO dV l)
theorem Lst.ext{lo A:Nat}{H H':Heap}{v:Value}{l:List (Nat×Thr)}(h:Lst lo A H v l)(hx:Ext H H'):Lst lo A H' v l:=by
 rcases h with ⟨b,h1,h2⟩|⟨b,h1,h2,h3,h4⟩
 ·exact .inl ⟨b,h1,h2.mono hx⟩
 ·exact .inr ⟨b,h1,h2,h3,hx.get h4⟩
theorem Lst.sl{lo A:Nat}{H:Heap}{v:Value}{l:List (Nat×Thr)}(h:Lst lo A H v l)(hl:l.length≤100000):SlR A 5 dV H v l:=by
 rcases h with ⟨b,h1,h2⟩|⟨b,h1,h2,h3,h4⟩
 ·exact SlR.ofOwn (by decide) eA (by omega) h1 h2
 ·exact⟨by omega,.inr ⟨b,none,h1,h2,.inl rfl,h4⟩⟩
theorem qM(l:List (Nat×Thr)):oneCells (cO dV l)=true:=by
 unfold cO
 induction l with
 | nil=>rfl
 | cons a l ih=>
  rw[List.flatMap_cons,lW,ih];rfl
theorem iW{cp:FuncId→Option CF}{H0:Heap}{lo t:Nat}{H:Heap}{v:Value}{l m:List (Nat×Thr)}{sp:Option Nat}{z:List Value}{R:Value→Heap→Prop}(hx:Ext H0 H)(hlo:lo≤H.length)(h:Lst lo H0.length H v l)(hm:0<m.length)(ht:H.get t=some (cO dV m))(hl:l.length+m.length≤100000)
  (k:∀v' H4,Ext H0 H4→H.length≤H4.length→Lst lo H0.length H4 v' (l++m)→R v' H4):wpH cp lo (.app 5 z) [v,.slice (some ⟨t,0,sp⟩) m.length m.length] H R:=by
 have hml:=cX eA m;have hll:=cX eA l;rcases h with ⟨b,h1,h2⟩|⟨b,h1,rfl,h3,h4⟩
 ·refine eG (c:=cO dV m) (c':=cO dV m) h2 hlo (by decide) hm (by omega) ht (by omega) (by rw[List.drop_zero,List.take_of_length_le (by omega)]) (qM m) ?_
  intro v' H4 ho hk hl4;exact k v' H4 (hk.ext hx h1) (by omega) (.inl ⟨H.length,hx.1,by rw[iy];exact ho⟩)
 ·have e1:aR lo (.app 5 z) [.slice (some ⟨b,0,none⟩) l.length l.length,.slice (some ⟨t,0,sp⟩) m.length m.length] H=some (.slice (some ⟨H.length,0,some 5⟩) (l.length+m.length) (l.length+m.length),H++[some (cO dV l++cO dV m)]):=by
   simp only[aR,hsem];rw[cells_get ht (by omega)];simp only[Option.bind_some,List.drop_zero];rw[List.take_of_length_le (by omega),qM,if_pos rfl];have h5:¬ (l.length+m.length≤l.length):=by omega
   have h6:¬ (bj<l.length+m.length):=by unfold bj;omega
   simp only[bI,h5,h6,if_false];rw[cells_get h4 (by omega)];simp only[Option.map_some,List.drop_zero];rw[List.take_of_length_le (by omega)]
  simp only[wpH];rw[e1];refine k _ _ (hx.trans (Ext.app _ _)) (by simp) (.inl ⟨H.length,hx.1,hlo,.inr ⟨l.length+m.length,by omega,?_,rfl,?_⟩⟩)
  ·rw[cX eA,List.length_append]
  ·rw[aH,iy]
theorem AU{p:List UInt8}{i j:Nat}(hj:j<6)(hi:i+6≤p.length):aY 256 ((((p.drop i).take 6).map UInt8.toNat).take (j+1))=aY 256 ((((p.drop i).take 6).map UInt8.toNat).take j)*256+(p.getD (i+j) 0).toNat:=by
 rw[gy (by simp;omega)];congr 1;rw[List.getD_eq_getElem?_getD,List.getElem?_map,List.getElem?_take,if_pos hj,List.getElem?_drop,List.getD_eq_getElem?_getD,List.getElem?_eq_getElem (by omega)];rfl
theorem nI{H0:Heap}{lo:Nat}{H:Heap}{B:Nat}{pv:Value}{p:List UInt8}{F:FT}{k i a:Nat}(hP:PlanOk H0 lo H B pv p F)(hp:p.length≤4096)(hk:k=2∨k=3)(hi:i≤p.length)(ha:a<5) :
  Ev cp lo 74 [.pointer (some ⟨B+7,0,none⟩),thV (k,i,a,0)] H (fun r H'=>Ext H H'∧SlR H.length 5 dV H' r (bK p (k,i,a,0))):=by
 have hmv:bK p (k,i,a,0)=(if a=0∧k=2 then dE i else[])++((if a=0∧k=3∧i<p.length then[(byA p i,4,i+1,1,0)] else[])++(if i+6≤p.length then[(v6 p i/900^(4-a)%900,if a=4 then(k,i+6,0,0) else(k,i,a+1,0))] else[])):=by
  rcases hk with rfl|rfl<;>rfl
 rw[hmv];clear hmv;have hb7:=Heap.get_lt hP.at_.g7;obtain⟨ad,c0,rfl⟩:=hP.pay.len;have hlo:=hP.lo;have hx1:=hP.ext.1;have hlow:=hP.low;unfold thV;simp only;refine Ic ?_;unfold CR y8;simp only[kB,aA];repeat' ((first|refine bS ?_|refine bT rfl ?_);(try simp only[aA]))
 have hxG:Ext H (H++[some [Value.int .i64 (k:Nat),.int .i64 (i:Nat),.int .i64 (a:Nat),.int .i64 0]]):=Ext.app _ _;have gs:Heap.get (H++[some [Value.int .i64 (k:Nat),.int .i64 (i:Nat),.int .i64 (a:Nat),.int .i64 0]]) H.length=some [.int .i64 (k:Nat),.int .i64 (i:Nat),.int .i64 (a:Nat),.int .i64 0]:=aH;have hPG:=hP.ex hxG;have hlG:(H++[some [Value.int .i64 (k:Nat),.int .i64 (i:Nat),.int .i64 (a:Nat),.int .i64 0]]).length=H.length+1:=by simp
 generalize H++[some [Value.int .i64 (k:Nat),.int .i64 (i:Nat),.int .i64 (a:Nat),.int .i64 0]]=G at *;have g7:=hPG.at_.g7;clear hP;refine dq (fun S K=>Ext G K∧∃v,Lst lo G.length K v (if a=0∧k=2 then dE i else[])∧∃(z:Nat→Value),S=[.pointer (some ⟨B+7,0,none⟩),z 1,.pointer (some ⟨H.length,0,none⟩),z 3,v,z 5,z 6,z 7,z 8,z 9,z 10,z 11,z 12,z 13,z 14,z 15,z 16,z 17,z 18,z 19,z 20]) ?_ ?_
 ·refine mF (fun h=>?_) (fun h=>?_)
  ·have e:a=0∧k=2:=by simp only[Bool.and_eq_true,decide_eq_true_eq]at h;omega
   clear h;rw[if_pos e];clear e;(try simp only[aA]);refine fh ?_;refine aC (gp (by omega) (by omega)) ?_;rintro r K ⟨hx,b,hb,rfl,hg⟩;(try simp only[aA]);(repeat' ((first|refine bS ?_|refine bT rfl ?_);(try simp only[aA])));exact⟨hx,_,.inr ⟨b,by omega,rfl,by simp[dE],hg⟩,aE rfl⟩
  ·have e:¬ (a=0∧k=2):=by simp only[Bool.and_eq_false_iff,decide_eq_false_iff_not]at h;omega
   clear h;rw[if_neg e];(try simp only[aA]);exact⟨Ext.refl _,_,.inl ⟨G.length,Nat.le_refl _,Own.nil (by omega)⟩,aE rfl⟩
 rintro S K ⟨hx,v,hL,z,rfl⟩;generalize hl1:(if a=0∧k=2 then dE i else[])=l1 at *;have hl14:l1.length≤4:=by rw[←hl1];split<;>simp[dE]
 replace hl1:False∨_:=.inr hl1;have hx1:=hx.1;(try simp only[aA]);refine dq (fun S K=>Ext G K∧∃v,Lst lo G.length K v (l1++(if a=0∧k=3∧i<p.length then[(byA p i,4,i+1,1,0)] else[]))∧∃(z:Nat→Value),S=[.pointer (some ⟨B+7,0,none⟩),z 1,.pointer (some ⟨H.length,0,none⟩),z 3,v,z 5,z 6,z 7,z 8,z 9,z 10,z 11,z 12,z 13,z 14,z 15,z 16,z 17,z 18,z 19,z 20]) ?_ ?_
 ·have hPK:=hPG.ex hx
  have k7:=hx.get g7;have ks:=hx.get gs;by_cases hlt:i<p.length
  ·obtain⟨b0,o0,sp0,cap0,xs0,e0,hg0,hx0,hle0⟩:=hPK.at_.pay.els 0 (by omega)
   cases e0;have hxa:xs0[o0+i]?=some (.int .u8 ((p.getD i 0).toNat:Nat)):=hx0 i hlt;have h255:=(p.getD i 0).toNat_lt;have hby:byA p i=(p.getD i 0).toNat:=rfl;rw[hby];clear hx0 hby;generalize (p.getD i 0).toNat=z0 at *;refine mF (fun h=>?_) (fun h=>?_)
   ·have e:a=0∧k=3:=by simp only[Bool.and_eq_true,decide_eq_true_eq]at h;omega
    clear h;rw[if_pos ⟨e.1,e.2,hlt⟩];clear e;(try simp only[aA]);(repeat' ((first|refine bS ?_|refine bT rfl ?_);(try simp only[aA])));refine fh ?_;refine iW (m:=[(z0,4,i+1,1,0)]) (hx.trans (Ext.app K _)) (by simp;omega) (hL.ext (Ext.app K _)) (by simp) (by rw[aH];rfl) (by simp only[List.length_singleton];omega) ?_;intro v4 H4 hx4 hl4 hL4;(try simp only[aA]);(repeat' ((first|refine bS ?_|refine bT rfl ?_);(try simp only[aA])));exact⟨hx4,v4,hL4,aE rfl⟩
   ·have e:¬ (a=0∧k=3∧i<p.length):=by simp only[Bool.and_eq_false_iff,decide_eq_false_iff_not]at h;omega
    clear h;rw[if_neg e,List.append_nil];(try simp only[aA]);exact⟨hx,v,hL,aE rfl⟩
  ·rw[if_neg (fun e=>hlt e.2.2),List.append_nil]
   have hirr:(decide (((a:Nat):Int)=0)&&decide (((k:Nat):Int)=3)&&decide (((i:Nat):Int)<((p.length:Nat):Int)))=false:=by simp;omega
   refine aF (t:=false) (by simp(disch:=first|omega|(simp only[aD];omega))only[evB,bR,Nat.reduceAdd,Nat.reduceMul,Nat.reduceBEq,Int.reduceToNat,Int.reduceEq, *];try rfl) (fun h=>by cases h) (fun h=>?_);clear h;(try simp only[aA]);exact⟨hx,v,hL,aE rfl⟩
 clear hx1 hx hL;rintro S K ⟨hx,v,hL,z,rfl⟩;rw[←List.append_assoc];generalize hl2:l1++(if a=0∧k=3∧i<p.length then[(byA p i,4,i+1,1,0)] else[])=l2 at *;have hl25:l2.length≤5:=by rw[←hl2,List.length_append];split<;>simp<;>omega
 replace hl2:False∨_:=.inr hl2;have hx1:=hx.1;have hPK:=hPG.ex hx;have k7:=hx.get g7;have ks:=hx.get gs;(try simp only[aA]);refine mF (fun h=>?_) (fun h=>?_)
 ·have e:¬ (i+6≤p.length):=by simp only[decide_eq_true_eq]at h;omega
  clear h;rw[if_neg e,List.append_nil];(try simp only[aA]);repeat' ((first|refine bS ?_|refine bT rfl ?_);(try simp only[aA]))
  refine fS ?_;exact⟨hxG.trans hx,(hL.sl (by omega)).weak (by omega)⟩
 have h6:i+6≤p.length:=by simp only[decide_eq_false_iff_not]at h;omega
 clear h;rw[if_pos h6];obtain⟨s6,hs6,hsl6⟩:=kO (a:=i) (b:=i+6) (x:=((i:Nat):Int)) (y:=((i+6:Nat):Int)) hPK.at_.pay rfl rfl (by omega) h6;rw[show i+6-i=6 by omega]at hsl6;have hl6:((p.drop i).take 6).length=6:=by simp;omega
 obtain⟨a6,c6,rfl⟩:=hsl6.len;rw[hl6]at hs6 hsl6;obtain⟨b0,o0,sp0,cap0,xs0,e0,hg0,hx0,hle0⟩:=hsl6.els 0 (by omega);rw[hl6]at e0;cases e0;have hgetD:∀j,j<6→((p.drop i).take 6).getD j 0=p.getD (i+j) 0:=fun j hj=>by
  rw[List.getD_eq_getElem?_getD,List.getElem?_take,if_pos hj,List.getElem?_drop,←List.getD_eq_getElem?_getD]
 have hv6:=(Fq h6).2;have hvl:∀d ∈ ((p.drop i).take 6).map UInt8.toNat,d<256:=fun d hd=>by
  obtain⟨y,-,rfl⟩:=List.mem_map.1 hd;exact y.toNat_lt
 replace hx0:False∨_:=.inr hx0;replace hgetD:False∨_:=.inr hgetD;(try simp only[aA]);repeat' ((first|refine bS ?_|refine bT rfl ?_);(try simp only[aA]))
 refine ai (fun j S K'=>K=K'∧∃(z:Nat→Value),S=[.pointer (some ⟨B+7,0,none⟩),z 1,.pointer (some ⟨H.length,0,none⟩),z 3,v,.int .i64 (aY 256 ((((p.drop i).take 6).map UInt8.toNat).take j):Nat),z 6,z 7,z 8,z 9,z 10,z 11,.slice (some ⟨b0,o0,sp0⟩) 6 c6,.int .i64 6,.int .i64 (j:Nat),z 15,z 16,z 17,z 18,z 19,z 20]) 6 ?_ ?_ ?_ ?_
 ·exact⟨rfl,aE rfl⟩
 ·rintro j S K' hj ⟨rfl,z,rfl⟩
  exact⟨_,m7,by simp;try omega⟩
 ·rintro j S K' hj ⟨rfl,z,rfl⟩
  have hxa:xs0[o0+j]?=some (.int .u8 ((p.getD (i+j) 0).toNat:Nat)):=by
   have:=hx0.resolve_left id j (by omega);rw[hgetD.resolve_left id j hj]at this;exact this
  have h255:=(p.getD (i+j) 0).toNat_lt;have hlt:=fY hvl j (by simp;omega);have h256:(256:Nat)^j≤256^5:=Nat.pow_le_pow_right (by decide) (by omega);have hX:aY 256 ((((p.drop i).take 6).map UInt8.toNat).take j)≤1099511627776:=by omega
  rw[AU hj h6];clear hlt h256 hvl;generalize aY 256 ((((p.drop i).take 6).map UInt8.toNat).take j)=X at *;generalize (p.getD (i+j) 0).toNat=y at *;have eshl:(X:Int)*2^(min 8 IntKind.i64.bits)=((X*256:Nat):Int):=by
   show(X:Int)*2^8=_;omega
  (try simp only[aA]);repeat' ((first|refine bS ?_|refine bT rfl ?_);(try simp only[aA]))
  exact⟨by trivial,aE rfl⟩
 rintro S K' ⟨rfl,z,rfl⟩;rw[show((((p.drop i).take 6).map UInt8.toNat).take 6)=((p.drop i).take 6).map UInt8.toNat from List.take_of_length_le (by simp;omega),show aY 256 (((p.drop i).take 6).map UInt8.toNat)=v6 p i from rfl];clear hx0 hgetD hvl hs6 hg0 hsl6 hl6 hle0;generalize v6 p i=V at *;have e4a:(4:Int)-((a:Nat):Int)=((4-a:Nat):Int):=by omega
 (try simp only[aA]);repeat' ((first|refine bS ?_|refine bT rfl ?_);(try simp only[aA]))
 refine ai (fun j S K'=>K=K'∧∃(z:Nat→Value),S=[.pointer (some ⟨B+7,0,none⟩),z 1,.pointer (some ⟨H.length,0,none⟩),z 3,v,.int .i64 (V/900^j:Nat),z 6,z 7,z 8,z 9,z 10,z 11,z 12,z 13,z 14,.int .i64 ((4-a:Nat):Int),.int .i64 (j:Nat),z 17,z 18,z 19,z 20]) (4-a) ?_ ?_ ?_ ?_
 ·exact⟨rfl,aE (by rw[Nat.pow_zero,Nat.div_one];rfl)⟩
 ·rintro j S K' hj ⟨rfl,z,rfl⟩
  exact⟨_,m7,by simp;try omega⟩
 ·rintro j S K' hj ⟨rfl,z,rfl⟩
  have ed:((V/900^j:Nat):Int).tdiv 900=((V/900^(j+1):Nat):Int):=by
   rw[Nat.pow_succ,←Nat.div_div_eq_div_mul];rfl
  have hle:V/900^(j+1)≤V:=Nat.div_le_self _ _;generalize V/900^(j+1)=W at *;(try simp only[aA]);repeat' ((first|refine bS ?_|refine bT rfl ?_);(try simp only[aA]))
  exact⟨by trivial,aE rfl⟩
 rintro S K' ⟨rfl,z,rfl⟩;have hW:V/900^(4-a)≤V:=Nat.div_le_self _ _;generalize V/900^(4-a)=W at *;have emod:((W:Nat):Int).tmod 900=((W%900:Nat):Int):=rfl;have hWm:=Nat.mod_lt W (show 0<900 by decide);have hlKG:G.length≤K.length:=hx.1;clear hx1;(try simp only[aA]);repeat' ((first|refine bS ?_|refine bT rfl ?_);(try simp only[aA]))
 have hxN:Ext K (K++[some [Value.int .i64 (k:Nat),.int .i64 (i:Nat),.int .i64 ((a+1:Nat):Int),.int .i64 0]]):=Ext.app _ _;have gn:Heap.get (K++[some [Value.int .i64 (k:Nat),.int .i64 (i:Nat),.int .i64 ((a+1:Nat):Int),.int .i64 0]]) K.length=some [.int .i64 (k:Nat),.int .i64 (i:Nat),.int .i64 ((a+1:Nat):Int),.int .i64 0]:=aH;have hlN:(K++[some [Value.int .i64 (k:Nat),.int .i64 (i:Nat),.int .i64 ((a+1:Nat):Int),.int .i64 0]]).length=K.length+1:=by simp
 generalize K++[some [Value.int .i64 (k:Nat),.int .i64 (i:Nat),.int .i64 ((a+1:Nat):Int),.int .i64 0]]=N at *;have n7:=hxN.get k7;have ns:=hxN.get ks;have hLN:=hL.ext hxN;have hxGN:=hx.trans hxN;clear hL k7 ks hxN hx hPK;refine dq (fun S M=>Ext G M∧Lst lo G.length M v l2∧(∃t:Thr,(False∨t=if a=4 then(k,i+6,0,0) else(k,i,a+1,0))∧M.get K.length=some [.int .i64 (t.1:Nat),.int .i64 (t.2.1:Nat),.int .i64 (t.2.2.1:Nat),.int .i64 (t.2.2.2:Nat)])∧∃(z:Nat→Value),S=[.pointer (some ⟨B+7,0,none⟩),z 1,.pointer (some ⟨H.length,0,none⟩),z 3,v,.int .i64 (W:Nat),z 6,.pointer (some ⟨K.length,0,none⟩),z 8,z 9,z 10,z 11,z 12,z 13,z 14,z 15,z 16,z 17,z 18,z 19,z 20]) ?_ ?_
 ·refine mF (fun h=>?_) (fun h=>?_)
  ·have e:a=4:=by simp only[decide_eq_true_eq]at h;omega
   clear h;have ht:False∨((k,i+6,0,0):Thr)=if a=4 then(k,i+6,0,0) else(k,i,a+1,0):=.inr (by rw[if_pos e])
   clear e;(try simp only[aA]);(repeat' ((first|refine bS ?_|refine bT rfl ?_);(try simp only[aA])));refine⟨hxGN.set (by omega),?_,⟨_,ht,by rw[aN (by omega)];rfl⟩,aE rfl⟩;rcases hLN with ⟨b,h1,h2⟩|⟨b,h1,h2,h3,h4⟩
   ·rcases h2 with ⟨q1,⟨q2,q3⟩|⟨n,q2,q3,q4,q5⟩⟩
    ·exact .inl ⟨b,h1,q1,.inl ⟨q2,q3⟩⟩
    ·have hbn:b≠K.length:=by
      intro e;subst e;rw[gn]at q5;injection q5 with q5;have:=congrArg List.length q5;rw[cX eA]at this;simp at this;omega
     exact .inl ⟨b,h1,q1,.inr ⟨n,q2,q3,q4,by rw[aM hbn.symm];exact q5⟩⟩
   ·have hbn:b≠K.length:=by
     intro e;subst e;rw[gn]at h4;injection h4 with q5;have:=congrArg List.length q5;rw[cX eA]at this;simp at this;omega
    exact .inr ⟨b,h1,h2,h3,by rw[aM hbn.symm];exact h4⟩
  ·have e:¬ a=4:=by simp only[decide_eq_false_iff_not]at h;omega
   clear h;have ht:False∨((k,i,a+1,0):Thr)=if a=4 then(k,i+6,0,0) else(k,i,a+1,0):=.inr (by rw[if_neg e])
   (try simp only[aA]);exact⟨hxGN,hLN,⟨_,ht,gn⟩,aE rfl⟩
 clear hLN hxGN ns n7;rintro S M ⟨hxM,hLM,⟨t,ht,gt⟩,z,rfl⟩;have hMl:=Heap.get_lt gt;have hxM1:=hxM.1;(try simp only[aA]);repeat' ((first|refine bS ?_|refine bT rfl ?_);(try simp only[aA]))
 refine fh ?_;refine iW (m:=[(W%900,t)]) (hxM.trans (Ext.app M _)) (by simp;omega) (hLM.ext (Ext.app M _)) (by simp) (by rw[aH];rfl) (by simp only[List.length_singleton];omega) ?_;intro v4 H4 hx4 hl4 hL4;(try simp only[aA]);repeat' ((first|refine bS ?_|refine bT rfl ?_);(try simp only[aA]))
 refine fS ?_;rw[←ht.resolve_left id];exact⟨hxG.trans hx4,(hL4.sl (by rw[List.length_append];simp;omega)).weak (by omega)⟩
def FR(H0:Heap)(lo B:Nat)(pv:Value)(p:List UInt8)(F:FT)(N:Nat→Prop)(t:Thr)(left:Nat)(H:Heap)(r:Value)(H':Heap):Prop:=
 PlanM H0 lo H' B pv p F N∧XB B H H'∧∃L,MvL p F t left L∧SlR H.length 5 dV H' r L
def p9(H0:Heap)(lo B:Nat)(pv:Value)(p:List UInt8)(F:FT):Prop:=∀H i a b left (N:Nat→Prop),(∀b,H.length≤b→N b)→PlanM H0 lo H B pv p F N→VT p (5,i,a,b)→Ev cp lo 75 [.pointer (some ⟨B+7,0,none⟩),thV (5,i,a,b),.int .i64 ((left:Nat):Int)] H (FR H0 lo B pv p F N (5,i,a,b) left H)
theorem xi(p:List UInt8)(i a:Nat):(bq p i a).length≤900:=Nat.le_trans (je (oc p i a) 30) (by decide)
theorem EZ{H0:Heap}{lo:Nat}{H:Heap}{B:Nat}{pv:Value}{p:List UInt8}{F:FT}{N:Nat→Prop}{t:Thr}{left:Nat}(hD:p9 H0 lo B pv p F)(hN:∀b,H.length≤b→N b)(hM:PlanM H0 lo H B pv p F N)(hp:p.length≤4096)(hv:VT p t) :
  Ev cp lo 53 [.pointer (some ⟨B+7,0,none⟩),thV t,.int .i64 ((left:Nat):Int)] H (FR H0 lo B pv p F N t left H):=by
 obtain⟨k,i,a,b⟩:=t;replace hN:False∨_:=.inr hN;have hP:=hM.pl.ok;have hb7:=Heap.get_lt hP.at_.g7;obtain⟨ad,c0,rfl⟩:=hP.pay.len;have hlo:=hP.lo;have hx1:=hP.ext.1;have hlow:=hP.low;have eth:thV (k,i,a,b)=.agg #[.int .i64 (k:Nat),.int .i64 (i:Nat),.int .i64 (a:Nat),.int .i64 (b:Nat)]:=rfl;rw[eth];refine IT ?_;unfold Dq xI;simp only[kB,aA];repeat' ((first|refine bS ?_|refine bT rfl ?_);(try simp only[aA]))
 have hxG:Ext H (H++[some [Value.int .i64 (k:Nat),.int .i64 (i:Nat),.int .i64 (a:Nat),.int .i64 (b:Nat)]]):=Ext.app _ _;have gs:Heap.get (H++[some [Value.int .i64 (k:Nat),.int .i64 (i:Nat),.int .i64 (a:Nat),.int .i64 (b:Nat)]]) H.length=some [.int .i64 (k:Nat),.int .i64 (i:Nat),.int .i64 (a:Nat),.int .i64 (b:Nat)]:=aH;have hMG:=hM.ex hxG;have hlG:(H++[some [Value.int .i64 (k:Nat),.int .i64 (i:Nat),.int .i64 (a:Nat),.int .i64 (b:Nat)]]).length=H.length+1:=by simp
 generalize H++[some [Value.int .i64 (k:Nat),.int .i64 (i:Nat),.int .i64 (a:Nat),.int .i64 (b:Nat)]]=G at *;have hPG:=hMG.pl.ok;have g7:=hPG.at_.g7;clear hP hM eth
 match k,hv with
 | 0,hv=>
  obtain⟨hi,ha,rfl⟩:=hv;have hal:=xi p i a;have ea3:((a:Nat):Int).tdiv 3=((a/3:Nat):Int):=rfl;have ea33:((a/3:Nat):Int)*3=((a/3*3:Nat):Int):=rfl
  (refine aF (t:=true) (by simp(disch:=first|omega|(simp only[aD];omega))only[evB,bR,Nat.reduceAdd,Nat.reduceMul,Nat.reduceBEq,Int.reduceToNat,Int.reduceEq, *];try rfl) (fun h=>?_) (fun h=>by cases h);clear h;(try simp only[aA]))
  refine fh ?_;refine aC (CA (by omega) hPG.at_ hp hi ha) ?_;rintro r K ⟨hx,hr⟩;obtain⟨ar,har⟩:=hr.len;subst har;have hxl:=hx.1;(try simp only[aA]);repeat' ((first|refine bS ?_|refine bT rfl ?_);(try simp only[aA]))
  refine ai (fun d S M=>Ext K M∧∃v,Lst lo K.length M v (((bq p i a).take d).map (fun x=>(x.1,0,i+x.2.1,x.2.2,0)))∧∃(z:Nat→Value),S=[.pointer (some ⟨B+7,0,none⟩),z 1,z 2,.pointer (some ⟨H.length,0,none⟩),z 4,v,z 6,z 7,.slice ar (bq p i a).length (bq p i a).length,.int .i64 ((bq p i a).length:Nat),.int .i64 (d:Nat),z 11,z 12,z 13,z 14,z 15,z 16,z 17,z 18,z 19,z 20,z 21,z 22,z 23,z 24,z 25,z 26,z 27,z 28,z 29,z 30,z 31,z 32,z 33]) (bq p i a).length ?_ ?_ ?_ ?_
  ·exact⟨Ext.refl _,_,.inl ⟨K.length,Nat.le_refl _,Own.nil (by omega)⟩,aE rfl⟩
  ·rintro d S M hd ⟨hx2,v,-,z,rfl⟩
   exact⟨_,m7,by simp⟩
  ·rintro d S M hd ⟨hx2,v,hL,z,rfl⟩
   have hx21:=hx2.1;have hgs:=hx2.get (hx.get gs);have hg7:=hx2.get (hx.get g7);obtain⟨-,⟨h1,h2⟩|⟨bb,sp,hbA2,h3,h4,hgb0⟩⟩:=hr
   ·rw[h2]at hd;simp at hd
   injection h3 with h3;subst h3;have hgb:=hx2.get hgb0;obtain⟨x,hx'⟩:∃x,(bq p i a)[d]=x:=⟨_,rfl⟩;have hxm:x ∈ bq p i a:=hx'▸List.getElem_mem hd;obtain⟨u,v',c,dd,k,m,y,q1,q2,q3,q4,q5,q6,q7,q8,q9,q10,q11,q12⟩:=lS hxm ha hi;have hat:=lX fH hd;rw[hx']at hat;replace hat:((cO eL (bq p i a)).drop (d*3)).take 3=[.int .i64 (x.1:Nat),.int .i64 (x.2.1:Nat),.int .i64 (x.2.2:Nat)]:=hat;have hcln:=cX fH (bq p i a);have htk:((bq p i a).take (d+1)).map (fun x=>((x.1,0,i+x.2.1,x.2.2,0):Nat×Thr))=((bq p i a).take d).map (fun x=>(x.1,0,i+x.2.1,x.2.2,0))++[(x.1,0,i+x.2.1,x.2.2,0)]:=by rw[List.take_add_one,List.getElem?_eq_getElem hd,hx',List.map_append];rfl
   have hll:(((bq p i a).take d).map (fun x=>((x.1,0,i+x.2.1,x.2.2,0):Nat×Thr))).length≤900:=by rw[List.length_map,List.length_take];omega
   rw[htk];have hx1m:i+x.2.1≤p.length:=by omega
   clear htk hx' hxm q1 q2 q3 q4 q5 q6 q7 q8 q10 q11 q12;generalize ((bq p i a).take d).map (fun x=>((x.1,0,i+x.2.1,x.2.2,0):Nat×Thr))=l at *;obtain⟨x1,x2,x3⟩:=x;simp only at hat q9 hx1m;have hbl:=Heap.get_lt hgb;(try simp only[aA]);(repeat' ((first|refine bS ?_|refine bT rfl ?_);(try simp only[aA])));refine fh ?_;refine iW (H0:=K) (m:=[(x1,0,i+x2,x3,0)]) (hx2.trans (Ext.app M _)) (by simp;omega) (hL.ext (Ext.app M _)) (by simp) (by rw[dH];rfl) (by simp only[List.length_singleton];omega) ?_;intro v4 H4 hx4 hl4 hL4;clear hL hat hcln hgb hgb0 hgs hg7;(try simp only[aA]);(repeat' ((first|refine bS ?_|refine bT rfl ?_);(try simp only[aA])));exact⟨hx4,v4,hL4,aE rfl⟩
  ·rintro S M ⟨hx2,v,hL,z,rfl⟩
   rw[List.take_length]at hL;have hll:((bq p i a).map (fun x=>((x.1,0,i+x.2.1,x.2.2,0):Nat×Thr))).length≤900:=by rw[List.length_map];omega
   have hmv:bK p (0,i,a,0)=(bq p i a).map (fun x=>(x.1,0,i+x.2.1,x.2.2,0))++((if i<p.length then[(913,1,i,a/3*3,0)] else[])++dE i):=rfl;rw[←List.append_assoc]at hmv;generalize (bq p i a).map (fun x=>((x.1,0,i+x.2.1,x.2.2,0):Nat×Thr))=l at *;have hx21:=hx2.1;clear hr;(try simp only[aA]);refine dq (fun S M=>Ext K M∧∃v,Lst lo K.length M v (l++(if i<p.length then[(913,1,i,a/3*3,0)] else[]))∧∃(z:Nat→Value),S=[.pointer (some ⟨B+7,0,none⟩),z 1,z 2,.pointer (some ⟨H.length,0,none⟩),z 4,v,z 6,z 7,z 8,z 9,z 10,z 11,z 12,z 13,z 14,z 15,z 16,z 17,z 18,z 19,z 20,z 21,z 22,z 23,z 24,z 25,z 26,z 27,z 28,z 29,z 30,z 31,z 32,z 33]) ?_ ?_
   ·have hgs:=hx2.get (hx.get gs)
    have hg7:=hx2.get (hx.get g7);refine mF (fun h=>?_) (fun h=>?_)
    ·have e:i<p.length:=by simp only[decide_eq_true_eq]at h;omega
     clear h;rw[if_pos e];(try simp only[aA]);(repeat' ((first|refine bS ?_|refine bT rfl ?_);(try simp only[aA])));refine fh ?_;refine iW (H0:=K) (m:=[(913,1,i,a/3*3,0)]) (hx2.trans (Ext.app M _)) (by simp;omega) (hL.ext (Ext.app M _)) (by simp) (by rw[aH];rfl) (by simp only[List.length_singleton];omega) ?_;intro v4 H4 hx4 hl4 hL4;clear hL hgs hg7;(try simp only[aA]);(repeat' ((first|refine bS ?_|refine bT rfl ?_);(try simp only[aA])));exact⟨hx4,v4,hL4,aE rfl⟩
    ·have e:¬ i<p.length:=by simp only[decide_eq_false_iff_not]at h;omega
     clear h;rw[if_neg e,List.append_nil];(try simp only[aA]);exact⟨hx2,v,hL,aE rfl⟩
   clear hL hx2 hx21;rintro S M ⟨hx2,v,hL,z,rfl⟩;have hll2:(l++(if i<p.length then[(913,1,i,a/3*3,0)] else[])).length≤901:=by rw[List.length_append];split<;>simp<;>omega
   generalize l++(if i<p.length then[(913,1,i,a/3*3,0)] else[])=l2 at *;have hgs:=hx2.get (hx.get gs);have hx21:=hx2.1;(try simp only[aA]);refine fh ?_;refine aC (gp (by omega) (by omega)) ?_;rintro r N ⟨hx3,b,hb,rfl,hg⟩;have hx31:=hx3.1;clear hgs;(try simp only[aA]);refine fh ?_;refine iW (H0:=K) (m:=dE i) (hx2.trans hx3) (by omega) (hL.ext hx3) (by simp[dE]) hg (by simp[dE];omega) ?_;intro v4 H4 hx4 hl4 hL4;clear hL hg;(try simp only[aA]);(repeat' ((first|refine bS ?_|refine bT rfl ?_);(try simp only[aA])));refine fS ?_;have hxx:=(hxG.trans hx).trans hx4;refine⟨(hMG.ex hx).ex hx4,XB.of_ext hxx,_,MvL.all,?_⟩;rw[hmv];exact(hL4.sl (by rw[List.length_append];simp[dE];omega)).weak (by omega)
 | 1,hv=>
  obtain⟨hi,ha,rfl⟩:=hv;obtain⟨b0,o0,sp0,cap0,xs0,e0,hg0,hx0,hle0⟩:=hPG.at_.pay.els 0 (by omega);cases e0;have hxa:xs0[o0+i]?=some (.int .u8 ((p.getD i 0).toNat:Nat)):=hx0 i hi;have h255:=(p.getD i 0).toNat_lt;have hmv:bK p (1,i,a,0)=[(byA p i,0,i+1,a,0)]:=rfl;have hby:byA p i=(p.getD i 0).toNat:=rfl;rw[hby]at hmv;replace hmv:False∨_:=.inr hmv;clear hx0 hby;generalize (p.getD i 0).toNat=z0 at *
  (refine aF (t:=false) (by simp(disch:=first|omega|(simp only[aD];omega))only[evB,bR,Nat.reduceAdd,Nat.reduceMul,Nat.reduceBEq,Int.reduceToNat,Int.reduceEq, *];try rfl) (fun h=>by cases h) (fun h=>?_);clear h;(try simp only[aA]))
  (refine aF (t:=true) (by simp(disch:=first|omega|(simp only[aD];omega))only[evB,bR,Nat.reduceAdd,Nat.reduceMul,Nat.reduceBEq,Int.reduceToNat,Int.reduceEq, *];try rfl) (fun h=>?_) (fun h=>by cases h);clear h;(try simp only[aA]))
  ((first|refine bS ?_|refine bT rfl ?_);(try simp only[aA]))
  refine fh ?_;refine iW (H0:=G) (m:=[(z0,0,i+1,a,0)]) (Ext.app G _) (by simp;omega) (l:=[]) (.inl ⟨G.length,Nat.le_refl _,Own.nil (by omega)⟩) (by simp) (by rw[←hlG,aH];rfl) (by simp) ?_;intro v4 H4 hx4 hl4 hL4;(try simp only[aA]);repeat' ((first|refine bS ?_|refine bT rfl ?_);(try simp only[aA]))
  refine fS ?_;refine⟨hMG.ex hx4,XB.of_ext (hxG.trans hx4),_,MvL.all,?_⟩;rw[hmv.resolve_left id];exact(hL4.sl (by simp)).weak (by omega)
 | 2,hv=>
  obtain⟨hi,ha,h3,rfl⟩:=hv
  (refine aF (t:=false) (by simp(disch:=first|omega|(simp only[aD];omega))only[evB,bR,Nat.reduceAdd,Nat.reduceMul,Nat.reduceBEq,Int.reduceToNat,Int.reduceEq, *];try rfl) (fun h=>by cases h) (fun h=>?_);clear h;(try simp only[aA]))
  (refine aF (t:=false) (by simp(disch:=first|omega|(simp only[aD];omega))only[evB,bR,Nat.reduceAdd,Nat.reduceMul,Nat.reduceBEq,Int.reduceToNat,Int.reduceEq, *];try rfl) (fun h=>by cases h) (fun h=>?_);clear h;(try simp only[aA]))
  repeat' ((first|refine bS ?_|refine bT rfl ?_);(try simp only[aA]))
  (refine aF (t:=true) (by simp(disch:=first|omega|(simp only[aD];omega))only[evB,bR,Nat.reduceAdd,Nat.reduceMul,Nat.reduceBEq,Int.reduceToNat,Int.reduceEq, *];try rfl) (fun h=>?_) (fun h=>by cases h);clear h;(try simp only[aA]))
  (refine aF (t:=true) (by simp(disch:=first|omega|(simp only[aD];omega))only[evB,bR,Nat.reduceAdd,Nat.reduceMul,Nat.reduceBEq,Int.reduceToNat,Int.reduceEq, *];try rfl) (fun h=>?_) (fun h=>by cases h);clear h;(try simp only[aA]))
  refine fh ?_;refine aC (nI (k:=2) hPG hp (.inl rfl) hi ha) ?_;rintro r K ⟨hx,hr⟩;(try simp only[aA]);repeat' ((first|refine bS ?_|refine bT rfl ?_);(try simp only[aA]))
  refine fS ?_;exact⟨hMG.ex hx,XB.of_ext (hxG.trans hx),_,MvL.all,hr.weak (by omega)⟩
 | 3,hv=>
  obtain⟨hi,ha,h3,rfl⟩:=hv
  (refine aF (t:=false) (by simp(disch:=first|omega|(simp only[aD];omega))only[evB,bR,Nat.reduceAdd,Nat.reduceMul,Nat.reduceBEq,Int.reduceToNat,Int.reduceEq, *];try rfl) (fun h=>by cases h) (fun h=>?_);clear h;(try simp only[aA]))
  (refine aF (t:=false) (by simp(disch:=first|omega|(simp only[aD];omega))only[evB,bR,Nat.reduceAdd,Nat.reduceMul,Nat.reduceBEq,Int.reduceToNat,Int.reduceEq, *];try rfl) (fun h=>by cases h) (fun h=>?_);clear h;(try simp only[aA]))
  repeat' ((first|refine bS ?_|refine bT rfl ?_);(try simp only[aA]))
  (refine aF (t:=false) (by simp(disch:=first|omega|(simp only[aD];omega))only[evB,bR,Nat.reduceAdd,Nat.reduceMul,Nat.reduceBEq,Int.reduceToNat,Int.reduceEq, *];try rfl) (fun h=>by cases h) (fun h=>?_);clear h;(try simp only[aA]))
  repeat' ((first|refine bS ?_|refine bT rfl ?_);(try simp only[aA]))
  (refine aF (t:=true) (by simp(disch:=first|omega|(simp only[aD];omega))only[evB,bR,Nat.reduceAdd,Nat.reduceMul,Nat.reduceBEq,Int.reduceToNat,Int.reduceEq, *];try rfl) (fun h=>?_) (fun h=>by cases h);clear h;(try simp only[aA]))
  refine fh ?_;refine aC (nI (k:=3) hPG hp (.inr rfl) hi ha) ?_;rintro r K ⟨hx,hr⟩;(try simp only[aA]);repeat' ((first|refine bS ?_|refine bT rfl ?_);(try simp only[aA]))
  refine fS ?_;exact⟨hMG.ex hx,XB.of_ext (hxG.trans hx),_,MvL.all,hr.weak (by omega)⟩
 | 4,hv=>
  obtain⟨hi,ha1,ha5,rfl⟩:=hv;have hmv:bK p (4,i,a,0)=(if a<5∧i<p.length then[(byA p i,4,i+1,a+1,0)] else[])++dE i:=rfl;replace hmv:False∨_:=.inr hmv
  (refine aF (t:=false) (by simp(disch:=first|omega|(simp only[aD];omega))only[evB,bR,Nat.reduceAdd,Nat.reduceMul,Nat.reduceBEq,Int.reduceToNat,Int.reduceEq, *];try rfl) (fun h=>by cases h) (fun h=>?_);clear h;(try simp only[aA]))
  (refine aF (t:=false) (by simp(disch:=first|omega|(simp only[aD];omega))only[evB,bR,Nat.reduceAdd,Nat.reduceMul,Nat.reduceBEq,Int.reduceToNat,Int.reduceEq, *];try rfl) (fun h=>by cases h) (fun h=>?_);clear h;(try simp only[aA]))
  repeat' ((first|refine bS ?_|refine bT rfl ?_);(try simp only[aA]))
  (refine aF (t:=false) (by simp(disch:=first|omega|(simp only[aD];omega))only[evB,bR,Nat.reduceAdd,Nat.reduceMul,Nat.reduceBEq,Int.reduceToNat,Int.reduceEq, *];try rfl) (fun h=>by cases h) (fun h=>?_);clear h;(try simp only[aA]))
  repeat' ((first|refine bS ?_|refine bT rfl ?_);(try simp only[aA]))
  (refine aF (t:=false) (by simp(disch:=first|omega|(simp only[aD];omega))only[evB,bR,Nat.reduceAdd,Nat.reduceMul,Nat.reduceBEq,Int.reduceToNat,Int.reduceEq, *];try rfl) (fun h=>by cases h) (fun h=>?_);clear h;(try simp only[aA]))
  (refine aF (t:=true) (by simp(disch:=first|omega|(simp only[aD];omega))only[evB,bR,Nat.reduceAdd,Nat.reduceMul,Nat.reduceBEq,Int.reduceToNat,Int.reduceEq, *];try rfl) (fun h=>?_) (fun h=>by cases h);clear h;(try simp only[aA]))
  refine dq (fun S M=>Ext G M∧∃v,Lst lo G.length M v (if a<5∧i<p.length then[(byA p i,4,i+1,a+1,0)] else[])∧∃(z:Nat→Value),S=[.pointer (some ⟨B+7,0,none⟩),z 1,z 2,.pointer (some ⟨H.length,0,none⟩),z 4,v,z 6,z 7,z 8,z 9,z 10,z 11,z 12,z 13,z 14,z 15,z 16,z 17,z 18,z 19,z 20,z 21,z 22,z 23,z 24,z 25,z 26,z 27,z 28,z 29,z 30,z 31,z 32,z 33]) ?_ ?_
  ·by_cases hlt:i<p.length
   ·obtain⟨b0,o0,sp0,cap0,xs0,e0,hg0,hx0,hle0⟩:=hPG.at_.pay.els 0 (by omega)
    cases e0;have hxa:xs0[o0+i]?=some (.int .u8 ((p.getD i 0).toNat:Nat)):=hx0 i hlt;have h255:=(p.getD i 0).toNat_lt;have hby:byA p i=(p.getD i 0).toNat:=rfl;rw[hby];clear hx0 hby hmv;generalize (p.getD i 0).toNat=z0 at *;refine mF (fun h=>?_) (fun h=>?_)
    ·have e:a<5:=by simp only[Bool.and_eq_true,decide_eq_true_eq]at h;omega
     clear h;rw[if_pos ⟨e,hlt⟩];(try simp only[aA])
     ((first|refine bS ?_|refine bT rfl ?_);(try simp only[aA]))
     refine fh ?_;refine iW (H0:=G) (m:=[(z0,4,i+1,a+1,0)]) (Ext.app G _) (by simp;omega) (l:=[]) (.inl ⟨G.length,Nat.le_refl _,Own.nil (by omega)⟩) (by simp) (by rw[←hlG,aH];rfl) (by simp) ?_;intro v4 H4 hx4 hl4 hL4;(try simp only[aA]);(repeat' ((first|refine bS ?_|refine bT rfl ?_);(try simp only[aA])));exact⟨hx4,v4,hL4,aE rfl⟩
    ·have e:¬ (a<5∧i<p.length):=by simp only[Bool.and_eq_false_iff,decide_eq_false_iff_not]at h;omega
     clear h;rw[if_neg e];(try simp only[aA]);exact⟨Ext.refl _,_,.inl ⟨G.length,Nat.le_refl _,Own.nil (by omega)⟩,aE rfl⟩
   ·rw[if_neg (fun e=>hlt e.2)]
    have hirr:(decide (((a:Nat):Int)<5)&&decide (((i:Nat):Int)<((p.length:Nat):Int)))=false:=by simp;omega
    refine aF (t:=false) (by simp(disch:=first|omega|(simp only[aD];omega))only[evB,bR,Nat.reduceAdd,Nat.reduceMul,Nat.reduceBEq,Int.reduceToNat,Int.reduceEq, *];try rfl) (fun h=>by cases h) (fun h=>?_);clear h;(try simp only[aA]);exact⟨Ext.refl _,_,.inl ⟨G.length,Nat.le_refl _,Own.nil (by omega)⟩,aE rfl⟩
  rintro S M ⟨hx2,v,hL,z,rfl⟩;have hll2:(if a<5∧i<p.length then[(byA p i,4,i+1,a+1,0)] else[]:List (Nat×Thr)).length≤1:=by split<;>simp
  generalize (if a<5∧i<p.length then[(byA p i,4,i+1,a+1,0)] else[]:List (Nat×Thr))=l2 at *;have hgs:=hx2.get gs;have hx21:=hx2.1;(try simp only[aA]);refine fh ?_;refine aC (gp (by omega) (by omega)) ?_;rintro r N ⟨hx3,b,hb,rfl,hg⟩;have hx31:=hx3.1;clear hgs;(try simp only[aA]);refine fh ?_;refine iW (H0:=G) (m:=dE i) (hx2.trans hx3) (by omega) (hL.ext hx3) (by simp[dE]) hg (by simp[dE];omega) ?_;intro v4 H4 hx4 hl4 hL4;clear hL hg;(try simp only[aA]);repeat' ((first|refine bS ?_|refine bT rfl ?_);(try simp only[aA]))
  refine fS ?_;refine⟨hMG.ex hx4,XB.of_ext (hxG.trans hx4),_,MvL.all,?_⟩;rw[hmv.resolve_left id];exact(hL4.sl (by rw[List.length_append];simp[dE];omega)).weak (by omega)
 | 5,hv=>
  have hD5:=hD G i a b left N (fun b hb=>hN.resolve_left id b (by omega)) hMG hv;rw[show thV (5,i,a,b)=.agg #[.int .i64 ((5:Nat):Int),.int .i64 (i:Nat),.int .i64 (a:Nat),.int .i64 (b:Nat)] from rfl]at hD5
  (refine aF (t:=false) (by simp(disch:=first|omega|(simp only[aD];omega))only[evB,bR,Nat.reduceAdd,Nat.reduceMul,Nat.reduceBEq,Int.reduceToNat,Int.reduceEq, *];try rfl) (fun h=>by cases h) (fun h=>?_);clear h;(try simp only[aA]))
  (refine aF (t:=false) (by simp(disch:=first|omega|(simp only[aD];omega))only[evB,bR,Nat.reduceAdd,Nat.reduceMul,Nat.reduceBEq,Int.reduceToNat,Int.reduceEq, *];try rfl) (fun h=>by cases h) (fun h=>?_);clear h;(try simp only[aA]))
  repeat' ((first|refine bS ?_|refine bT rfl ?_);(try simp only[aA]))
  (refine aF (t:=false) (by simp(disch:=first|omega|(simp only[aD];omega))only[evB,bR,Nat.reduceAdd,Nat.reduceMul,Nat.reduceBEq,Int.reduceToNat,Int.reduceEq, *];try rfl) (fun h=>by cases h) (fun h=>?_);clear h;(try simp only[aA]))
  repeat' ((first|refine bS ?_|refine bT rfl ?_);(try simp only[aA]))
  (refine aF (t:=false) (by simp(disch:=first|omega|(simp only[aD];omega))only[evB,bR,Nat.reduceAdd,Nat.reduceMul,Nat.reduceBEq,Int.reduceToNat,Int.reduceEq, *];try rfl) (fun h=>by cases h) (fun h=>?_);clear h;(try simp only[aA]))
  (refine aF (t:=false) (by simp(disch:=first|omega|(simp only[aD];omega))only[evB,bR,Nat.reduceAdd,Nat.reduceMul,Nat.reduceBEq,Int.reduceToNat,Int.reduceEq, *];try rfl) (fun h=>by cases h) (fun h=>?_);clear h;(try simp only[aA]))
  (refine aF (t:=true) (by simp(disch:=first|omega|(simp only[aD];omega))only[evB,bR,Nat.reduceAdd,Nat.reduceMul,Nat.reduceBEq,Int.reduceToNat,Int.reduceEq, *];try rfl) (fun h=>?_) (fun h=>by cases h);clear h;(try simp only[aA]))
  refine fh ?_;refine aC hD5 ?_;rintro r K ⟨hM2,hxb,L,hL,hr⟩;(try simp only[aA]);repeat' ((first|refine bS ?_|refine bT rfl ?_);(try simp only[aA]))
  refine fS ?_;exact⟨hM2,(XB.of_ext hxG).trans hxb,L,hL,hr.weak (by omega)⟩
 | 6,hv=>
  obtain⟨hi,rfl,rfl⟩:=hv
  (refine aF (t:=false) (by simp(disch:=first|omega|(simp only[aD];omega))only[evB,bR,Nat.reduceAdd,Nat.reduceMul,Nat.reduceBEq,Int.reduceToNat,Int.reduceEq, *];try rfl) (fun h=>by cases h) (fun h=>?_);clear h;(try simp only[aA]))
  (refine aF (t:=false) (by simp(disch:=first|omega|(simp only[aD];omega))only[evB,bR,Nat.reduceAdd,Nat.reduceMul,Nat.reduceBEq,Int.reduceToNat,Int.reduceEq, *];try rfl) (fun h=>by cases h) (fun h=>?_);clear h;(try simp only[aA]))
  repeat' ((first|refine bS ?_|refine bT rfl ?_);(try simp only[aA]))
  (refine aF (t:=false) (by simp(disch:=first|omega|(simp only[aD];omega))only[evB,bR,Nat.reduceAdd,Nat.reduceMul,Nat.reduceBEq,Int.reduceToNat,Int.reduceEq, *];try rfl) (fun h=>by cases h) (fun h=>?_);clear h;(try simp only[aA]))
  repeat' ((first|refine bS ?_|refine bT rfl ?_);(try simp only[aA]))
  (refine aF (t:=false) (by simp(disch:=first|omega|(simp only[aD];omega))only[evB,bR,Nat.reduceAdd,Nat.reduceMul,Nat.reduceBEq,Int.reduceToNat,Int.reduceEq, *];try rfl) (fun h=>by cases h) (fun h=>?_);clear h;(try simp only[aA]))
  (refine aF (t:=false) (by simp(disch:=first|omega|(simp only[aD];omega))only[evB,bR,Nat.reduceAdd,Nat.reduceMul,Nat.reduceBEq,Int.reduceToNat,Int.reduceEq, *];try rfl) (fun h=>by cases h) (fun h=>?_);clear h;(try simp only[aA]))
  (refine aF (t:=false) (by simp(disch:=first|omega|(simp only[aD];omega))only[evB,bR,Nat.reduceAdd,Nat.reduceMul,Nat.reduceBEq,Int.reduceToNat,Int.reduceEq, *];try rfl) (fun h=>by cases h) (fun h=>?_);clear h;(try simp only[aA]))
  refine fh ?_;refine aC (gp (by omega) (by omega)) ?_;rintro r N ⟨hx3,b,hb,rfl,hg⟩;(try simp only[aA]);repeat' ((first|refine bS ?_|refine bT rfl ?_);(try simp only[aA]))
  refine fS ?_;refine⟨hMG.ex hx3,XB.of_ext (hxG.trans hx3),_,MvL.all,by simp[bK,dE],.inr ⟨b,none,by omega,rfl,.inl rfl,hg⟩⟩
end Go.Proofs.YtgpolmomghejoaaDoor
