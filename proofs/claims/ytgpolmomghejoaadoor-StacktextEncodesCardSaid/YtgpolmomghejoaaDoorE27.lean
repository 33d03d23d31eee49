/- Lemmas. -/
import Derived.Test.YtgpolmomghejoaaDoorE26
set_option linter.unusedVariables false
set_option linter.unusedSimpArgs false
set_option linter.unusedSectionVars false
namespace Go.Proofs.YtgpolmomghejoaaDoor
open Go.Abs
set_option maxRecDepth 20000
abbrev GE:=(Nat×Nat)×Value
def nP(x:Nat×Nat):Value:=.agg #[.int .i64 (x.1:Nat),.int .i64 (x.2:Nat)]
theorem uw(x y:Nat×Nat):gI [1,1] true (nP x) (nP y)=some (decide (x=y)):=by
 obtain⟨i,a⟩:=x;obtain⟨i',a'⟩:=y;simp only[nP,gI,if_true,aO,ft,Option.some.injEq];rw[Bool.eq_iff_iff];simp only[Bool.and_eq_true,decide_eq_true_eq,beq_iff_eq,Prod.mk.injEq];exact⟨fun⟨h1,h2,_⟩=>⟨Int.ofNat.inj h1,Int.ofNat.inj h2⟩,fun⟨h1,h2⟩=>⟨congrArg Int.ofNat h1,congrArg Int.ofNat h2,trivial⟩⟩
theorem wS(e:GE)(es:List GE):lh (e::es)=nP e.1::e.2::lh es:=rfl
theorem sF{x:Nat×Nat}:∀(es:List GE) (n:Nat),(∃e ∈ es,e.1=x∧∃m,dt [1,1] true (nP x) (lh es) n=some (some (m,e.2)))∨dt [1,1] true (nP x) (lh es) n=some none
 | [],n=>.inr rfl
 | u::es,n=>by
  rw[wS];simp only[dt,uw];by_cases h:x=u.1
  ·subst h
   simp only[decide_true];exact .inl ⟨u,List.mem_cons_self ..,rfl,n,rfl⟩
  ·simp only[h,decide_false]
   rcases sF (x:=x) es (n+1)with ⟨e,he,h1,m,h2⟩|h2
   ·exact .inl ⟨e,List.mem_cons_of_mem _ he,h1,m,h2⟩
   ·exact .inr h2
theorem yw{H:Heap}{m:Nat}{es:List GE}{x:Nat×Nat}(hg:H.get m=some (lh es)) :
  (∃e ∈ es,e.1=x∧∀H':Heap,H'.get m=some (lh es)→aG (.mget [1,1] true (.slice none 0 0) true) [.map (some m),nP x] H'=some (.tuple #[e.2,.bool true])) ∨
   (∀H':Heap,H'.get m=some (lh es)→aG (.mget [1,1] true (.slice none 0 0) true) [.map (some m),nP x] H'=some (.tuple #[.slice none 0 0,.bool false])) ∧
    ∀(H':Heap) (lo:Nat) (v:Value),lo≤m→H'.get m=some (lh es)→aR lo (.mset [1,1] true) [.map (some m),nP x,v] H'=some (undef,H'.set m (some (lh (es++[(x,v)])))):=by
 rcases sF (x:=x) es 0 with ⟨e,he,h1,n,h2⟩|h2
 ·refine .inl ⟨e,he,h1,fun H' h=>?_⟩
  simp only[aG,h,Option.bind_some,uw,h2];rfl
 ·refine .inr ⟨fun H' h=>?_,fun H' lo v hlo h=>?_⟩
  ·simp only[aG,h,Option.bind_some,uw,h2]
   rfl
  ·simp only[aR,hsem,kY,if_pos hlo,h,uw,h2]
   simp[DD,lh,nP]
theorem PlanM.grp{H0:Heap}{lo:Nat}{H:Heap}{B:Nat}{pv:Value}{p:List UInt8}{F:FT}{N:Nat→Prop}{es:List GE}(h:Plan H0 lo H B pv p F)(hB:B<H.length)
  (hes:∀e ∈ es,e.1.2≤dgA p e.1.1∧1≤e.1.2∧e.1.1≤p.length∧∃b sp,B<b∧N b∧e.2=.slice (some ⟨b,0,sp⟩) (dF p e.1.1 e.1.2).length (dF p e.1.1 e.1.2).length∧H.get b=some ((dF p e.1.1 e.1.2).map ag)) :
  PlanM H0 lo (H.set B (some (lh es))) B pv p F N:=by
 have hk:=o3 H B (some (lh es));have hext:Ext H0 (H.set B (some (lh es))):=hk.ext h.ok.ext h.ok.low;refine⟨⟨⟨⟨hk.get h.ok.at_.g7 (by omega),fun k h1 h6=>hk.get (h.ok.at_.gk k h1 h6) (by omega),h.ok.pay.mono hext⟩,hext,h.ok.low,h.ok.lo,h.ok.pay,h.ok.big⟩,h.att,h.low⟩,es,aN hB,trivial,fun e he=>?_⟩;obtain⟨q1,q2,q3,b,sp,q4,qn,q5,q6⟩:=hes e he;exact⟨q1,q2,q3,b,sp,q4,qn,q5,hk.get q6 (by omega)⟩
theorem uv{p:List UInt8}{i k:Nat}(h:k≤dgA p i):(∀b ∈ (p.drop i).take k,bg b=true)∧k≤44∧i+k≤p.length∨k=0:=by
 by_cases h0:k=0
 ·exact .inr h0
 refine .inl ?_;unfold dgA at h;have hl:(((p.drop i).take 44).takeWhile bg).length≤((p.drop i).take 44).length:=(List.takeWhile_sublist _).length_le;simp only[List.length_take,List.length_drop]at hl;refine⟨fun b hb=>?_,by omega,by omega⟩;have e:(p.drop i).take k=(((p.drop i).take 44).takeWhile bg).take k:=by
  have hpre:=List.takeWhile_prefix (p:=bg) (l:=(p.drop i).take 44);have:=List.prefix_iff_eq_take.1 hpre;rw[this,List.take_take,List.take_take,Nat.min_eq_left (by omega),Nat.min_eq_left (by omega)]
 rw[e]at hb;exact List.all_eq_true.1 List.all_takeWhile b (List.mem_of_mem_take hb)
theorem vJ{H0:Heap}{lo:Nat}{H:Heap}{B:Nat}{pv:Value}{p:List UInt8}{F:FT}{N:Nat→Prop}{i k:Nat}(hN:∀b,H.length≤b→N b)(hM:PlanM H0 lo H B pv p F N)(hp:p.length≤4096)(h1:1≤k)(hk:k≤dgA p i) :
  Ev cp lo 91 [.pointer (some ⟨B+7,0,none⟩),.int .i64 (i:Nat),.int .i64 (k:Nat)] H (fun r H'=>PlanM H0 lo H' B pv p F N∧XB B H H'∧∃b sp,B<b∧r=.slice (some ⟨b,0,sp⟩) (dF p i k).length (dF p i k).length∧H'.get b=some ((dF p i k).map ag)):=by
 obtain⟨hdg,hk44,hik⟩:=(uv hk).resolve_right (by omega);have hb7:=Heap.get_lt hM.pl.ok.at_.g7;obtain⟨ad,c0,rfl⟩:=hM.pl.ok.pay.len;have hlo:=hM.pl.ok.lo;have hx1:=hM.pl.ok.ext.1;have hlow:=hM.pl.ok.low;replace hN:False∨_:=.inr hN;refine JB ?_;unfold D8 yX;simp only[kB,aA];repeat' ((first|refine bS ?_|refine bT rfl ?_);(try simp only[aA]))
 have hxG:Ext H (H++[some [Value.int .i64 (i:Nat),.int .i64 (k:Nat)]]):=Ext.app _ _;have gs:Heap.get (H++[some [Value.int .i64 (i:Nat),.int .i64 (k:Nat)]]) H.length=some [.int .i64 (i:Nat),.int .i64 (k:Nat)]:=aH;have hlG:(H++[some [Value.int .i64 (i:Nat),.int .i64 (k:Nat)]]).length=H.length+1:=by simp
 generalize H++[some [Value.int .i64 (i:Nat),.int .i64 (k:Nat)]]=G at *;have hMG:=hM.ex hxG;have g7:=hMG.pl.ok.at_.g7;obtain⟨es,gm,-,hes⟩:=hMG.mp;replace hes:False∨_:=.inr hes;rcases yw (x:=(i,k)) gm with ⟨e,he,h2,hmg⟩|⟨hmg,hms⟩
 ·have hmg:=hmg G gm
  obtain⟨q1,q2,q3,b,sp,q4,qn,q5,q6⟩:=hes.resolve_left id e he;rw[h2]at q5 q6;simp only[nP]at hmg;rw[q5]at hmg;clear q5 h2 he q1 q2;simp only at q6;generalize dF p i k=gl at *;repeat' ((first|refine bS ?_|refine bT rfl ?_);(try simp only[aA]))
  (refine aF (t:=false) (by simp(disch:=first|omega|(simp only[aD];omega))only[evB,bR,Nat.reduceAdd,Nat.reduceMul,Nat.reduceBEq,Int.reduceToNat,Int.reduceEq, *];try rfl) (fun h=>by cases h) (fun h=>?_);clear h;(try simp only[aA]))
  repeat' ((first|refine bS ?_|refine bT rfl ?_);(try simp only[aA]))
  refine fS ?_;exact⟨hMG,XB.of_ext hxG,b,sp,q4,rfl,q6⟩
 ·have hmg:=hmg G gm
  simp only[nP]at hmg hms;repeat' ((first|refine bS ?_|refine bT rfl ?_);(try simp only[aA]))
  (refine aF (t:=true) (by simp(disch:=first|omega|(simp only[aD];omega))only[evB,bR,Nat.reduceAdd,Nat.reduceMul,Nat.reduceBEq,Int.reduceToNat,Int.reduceEq, *];try rfl) (fun h=>?_) (fun h=>by cases h);clear h;(try simp only[aA]))
  obtain⟨s6,hs6,hsl6⟩:=kO (a:=i) (b:=i+k) (x:=((i:Nat):Int)) (y:=((i+k:Nat):Int)) hMG.pl.ok.at_.pay rfl rfl (by omega) hik;rw[show i+k-i=k by omega]at hsl6;have hb2:=qO hsl6;have hcast:((i:Nat):Int)+((k:Nat):Int)=((i+k:Nat):Int):=by omega
  refine fh ?_;refine aC (uV (l:=(p.drop i).take k) (by omega) (by simp;omega) hdg) ?_;rintro r K ⟨hx,-,b,sp,hb,rfl,hg⟩;have hgr:dw ((p.drop i).take k)=dF p i k:=rfl;rw[hgr]at hg;have hMK:=hMG.ex hx;have k7:=hx.get g7;have ks:=hx.get gs;have km:=hx.get gm;have hms:=hms K lo (.slice (some ⟨b,0,sp⟩) (dF p i k).length (dF p i k).length) (by omega) km;clear hmg;generalize hgl:dF p i k=gl at *;(try simp only[aA]);repeat' ((first|refine bS ?_|refine bT rfl ?_);(try simp only[aA]))
  refine fS ?_;subst hgl;have hBl:=hx.1;refine⟨PlanM.grp hMK.pl (by omega) fun e he=>?_,(XB.of_ext (hxG.trans hx)).trans ⟨by simp,fun c hc hne=>aM hne.symm⟩,b,sp,by omega,rfl,?_⟩
  ·rcases List.mem_append.1 he with he|he
   ·obtain⟨q1,q2,q3,b2,sp2,q4,qn,q5,q6⟩:=hes.resolve_left id e he
    exact⟨q1,q2,q3,b2,sp2,q4,qn,q5,hx.get q6⟩
   ·rw[List.mem_singleton.1 he]
    exact⟨hk,h1,by show i≤p.length;omega,b,sp,by omega,hN.resolve_left id b (by omega),rfl,hg⟩
  ·rw[aM (by omega)];exact hg
theorem pR:∀(l:List Nat),eK (l.map ag) (l.map ag)=true
 | []=>rfl
 | a::l=>by simp[eK,iG,ag,pR l]
def LB(H:Heap)(v:Value)(lb:Nat)(l:List (Nat×Thr)):Prop:=∃sp,(sp=none∨sp=some 5)∧v=.slice (some ⟨lb,0,sp⟩) l.length l.length∧0<l.length∧H.get lb=some (cO dV l)
theorem LB.ext{H H':Heap}{v:Value}{lb:Nat}{l:List (Nat×Thr)}(h:LB H v lb l)(hx:Ext H H'):LB H' v lb l:=by
 obtain⟨sp,h1,h2,h3,h4⟩:=h;exact⟨sp,h1,h2,h3,hx.get h4⟩
theorem LB.xb{H H':Heap}{B:Nat}{v:Value}{lb:Nat}{l:List (Nat×Thr)}(h:LB H v lb l)(hx:XB B H H')(hne:lb≠B):LB H' v lb l:=by
 obtain⟨sp,h1,h2,h3,h4⟩:=h;exact⟨sp,h1,h2,h3,hx.get h4 hne⟩
theorem LB.lt{H:Heap}{v:Value}{lb:Nat}{l:List (Nat×Thr)}(h:LB H v lb l):lb<H.length:=by
 obtain⟨sp,h1,h2,h3,h4⟩:=h;exact Heap.get_lt h4
theorem Dk{cp:FuncId→Option CF}{lo t lb:Nat}{H:Heap}{v:Value}{l m:List (Nat×Thr)}{sp:Option Nat}{z:List Value}{R:Value→Heap→Prop}(hlo:lo≤H.length)(hlb:lo≤lb)(h:LB H v lb l)(hm:0<m.length)(ht:H.get t=some (cO dV m))(hl:l.length+m.length≤100000)
  (k:∀v' H4,Keep lb H H4→H4.length=H.length+1→LB H4 v' H.length (l++m)→R v' H4):wpH cp lo (.app 5 z) [v,.slice (some ⟨t,0,sp⟩) m.length m.length] H R:=by
 have hml:=cX eA m;have hll:=cX eA l;obtain⟨sp',h1,rfl,h3,h4⟩:=h;rcases h1 with rfl|rfl
 ·have e1:aR lo (.app 5 z) [.slice (some ⟨lb,0,none⟩) l.length l.length,.slice (some ⟨t,0,sp⟩) m.length m.length] H=some (.slice (some ⟨H.length,0,some 5⟩) (l.length+m.length) (l.length+m.length),H++[some (cO dV l++cO dV m)]):=by
   simp only[aR,hsem];rw[cells_get ht (by omega)];simp only[Option.bind_some,List.drop_zero];rw[List.take_of_length_le (by omega),qM,if_pos rfl];have h5:¬ (l.length+m.length≤l.length):=by omega
   have h6:¬ (bj<l.length+m.length):=by unfold bj;omega
   simp only[bI,h5,h6,if_false];rw[cells_get h4 (by omega)];simp only[Option.map_some,List.drop_zero];rw[List.take_of_length_le (by omega)]
  simp only[wpH];rw[e1];refine k _ _ ⟨by simp,fun i hi _=>fE hi⟩ (by simp) ⟨some 5,.inr rfl,by rw[List.length_append],by rw[List.length_append];omega,?_⟩;rw[aH,iy]
 ·refine eG (b:=lb) (cells:=cO dV l) (c:=cO dV m) (c':=cO dV m) ⟨hlb,.inr ⟨l.length,h3,by omega,rfl,h4⟩⟩ hlo (by decide) hm (by omega) ht (by omega) (by rw[List.drop_zero,List.take_of_length_le (by omega)]) (qM m) ?_
  intro v' H4 ho hk hl4;refine k v' H4 hk hl4 ?_;obtain⟨-,⟨q1,q2⟩|⟨n,q1,q2,q3,q4⟩⟩:=ho
  ·have:=congrArg List.length q2
   rw[List.length_append,List.length_nil]at this;omega
  ·rw[List.length_append]at q2
   have:n=(l++m).length:=by rw[List.length_append];omega
   subst this;exact⟨some 5,.inr rfl,q3,q1,by rw[iy];exact q4⟩
theorem E6{p:List UInt8}{i k:Nat}(hi:i≤p.length)(h1:1≤k)(hk:k≤dgA p i):VT p (cT i k 1):=by
 obtain⟨-,h44,hik⟩:=(uv hk).resolve_right (by omega);unfold cT;split
 ·exact⟨hi,hk,by omega,fun _=>⟨Nat.le_refl _,by omega⟩⟩
 ·rw[if_neg (by omega)]
  exact⟨hik,rfl,rfl⟩
theorem XB.keep{B x:Nat}{G M M':Heap}(h:XB B G M)(hk:Keep x M M')(hx:G.length≤x):XB B G M':=
 ⟨Nat.le_trans h.1 hk.1,fun b hb hne=>(hk.2 b (Nat.lt_of_lt_of_le hb h.1) (by omega)).trans (h.2 b hb hne)⟩
def jv(p:List UInt8)(F:FT)(i left n:Nat):List (Nat×Thr):=dE i++((List.range n).map fun k=>(((dF p i (k+1)).getD 0 0,cT i (k+1) 1):Nat×Thr)).filter fun x=>decide (cst (bC F) x.2=left)
theorem wo(p:List UInt8)(F:FT)(i left n:Nat):0<(jv p F i left n).length∧(jv p F i left n).length≤4+n:=by
 unfold jv;rw[List.length_append];have h:=List.length_filter_le (fun x=>decide (cst (bC F) x.2=left)) ((List.range n).map fun k=>(((dF p i (k+1)).getD 0 0,cT i (k+1) 1):Nat×Thr));rw[List.length_map,List.length_range]at h;have h4:(dE i).length=4:=rfl;omega
theorem zj{p:List UInt8}{F:FT}{i left n:Nat}(h:cst (bC F) (cT i (n+1) 1)=left):jv p F i left (n+1)=jv p F i left n++[((dF p i (n+1)).getD 0 0,cT i (n+1) 1)]:=by
 unfold jv;rw[List.range_succ,List.map_append,List.filter_append,List.append_assoc];simp[h]
theorem BF{p:List UInt8}{F:FT}{i left n:Nat}(h:cst (bC F) (cT i (n+1) 1)≠left):jv p F i left (n+1)=jv p F i left n:=by
 unfold jv;rw[List.range_succ,List.map_append,List.filter_append];simp[h]
theorem Ac{p:List UInt8}{F:FT}{i left:Nat}:MvL p F (5,i,0,0) left (jv p F i left (dgA p i)):=by
 have hmv:bK p (5,i,0,0)=dE i++(List.range (dgA p i)).map (fun k=>((dF p i (k+1)).getD 0 0,cT i (k+1) 1)):=by simp only[bK,Nat.lt_irrefl,if_false]
 unfold jv;rw[MvL,hmv];refine⟨fun x hx=>?_,fun x hx hc=>?_⟩
 ·rcases List.mem_append.1 hx with hx|hx
  ·exact List.mem_append.2 (.inl hx)
  ·exact List.mem_append.2 (.inr (List.mem_filter.1 hx).1)
 ·rcases List.mem_append.1 hx with hx|hx
  ·exact List.mem_append.2 (.inl hx)
  ·exact List.mem_append.2 (.inr (List.mem_filter.2 ⟨hx,by simpa using hc⟩))
theorem GA{H0:Heap}{lo B:Nat}{pv:Value}{p:List UInt8}{F:FT}(hp:p.length≤4096):p9 H0 lo B pv p F:=by
 intro H i a b left N hN hM hv;obtain⟨hi,h2,h3,h4⟩:=hv;have hP:=hM.pl.ok;have hb7:=Heap.get_lt hP.at_.g7;have hlo:=hP.lo;have hx1:=hP.ext.1;have hlow:=hP.low;replace hN:False∨_:=.inr hN;have h44:a≤44:=by have:=iM p i;omega
 have eth:thV (5,i,a,b)=.agg #[.int .i64 5,.int .i64 (i:Nat),.int .i64 (a:Nat),.int .i64 (b:Nat)]:=rfl;rw[eth];clear eth;refine GO ?_;unfold BU wj;simp only[kB,aA];repeat' ((first|refine bS ?_|refine bT rfl ?_);(try simp only[aA]))
 have hxG:Ext H (H++[some [Value.int .i64 5,.int .i64 (i:Nat),.int .i64 (a:Nat),.int .i64 (b:Nat)]]):=Ext.app _ _;have gs:Heap.get (H++[some [Value.int .i64 5,.int .i64 (i:Nat),.int .i64 (a:Nat),.int .i64 (b:Nat)]]) H.length=some [.int .i64 5,.int .i64 (i:Nat),.int .i64 (a:Nat),.int .i64 (b:Nat)]:=aH;have hMG:=hM.ex hxG;have hlG:(H++[some [Value.int .i64 5,.int .i64 (i:Nat),.int .i64 (a:Nat),.int .i64 (b:Nat)]]).length=H.length+1:=by simp
 generalize H++[some [Value.int .i64 5,.int .i64 (i:Nat),.int .i64 (a:Nat),.int .i64 (b:Nat)]]=G at *;clear hM hP;by_cases ha:0<a
 ·obtain⟨hb1,hb2⟩:=h4 ha
  have hmv:bK p (5,i,a,b)=[((dF p i a).getD b 0,cT i a (b+1))]:=by simp only[bK,if_pos ha]
  replace hmv:False∨_:=.inr hmv;have hgl:=eg h2;have hs4:eK [Value.int .i64 5,.int .i64 (i:Nat),.int .i64 (a:Nat),.int .i64 (b:Nat)] [Value.int .i64 5,.int .i64 (i:Nat),.int .i64 (a:Nat),.int .i64 (b:Nat)]=true:=by simp[eK,iG]
  have hai:(0:Int)<((a:Nat):Int):=by omega
  clear h3 h4
  (refine aF (t:=true) (by simp(disch:=first|omega|(simp only[aD];omega))only[evB,bR,Nat.reduceAdd,Nat.reduceMul,Nat.reduceBEq,Int.reduceToNat,Int.reduceEq, *];try rfl) (fun h=>?_) (fun h=>by cases h);clear h;(try simp only[aA]))
  refine fh ?_;refine dr rfl ((vJ (N:=N) (fun b hb=>hN.resolve_left id b (by omega)) hMG hp ha h2).mono ?_);rintro r K ⟨hMK,hxb,gb,sp,hgb,rfl,hg⟩;have ks:=hxb.get gs (by omega);refine⟨?_,?_⟩
  ·simp only[List.take_succ_cons,List.take_zero,List.all_cons,List.all_nil,Bool.and_true,Bool.and_eq_true]
   exact⟨eu rfl gs ks hs4,eu rfl gs ks hs4,eu rfl gs ks hs4,eu rfl gs ks hs4⟩
  have hgn:=pR (dF p i a);have hat:((dF p i a).map ag)[b]?=some (.int .i64 (((dF p i a).getD b 0:Nat):Int)):=by
   rw[List.getElem?_map,List.getElem?_eq_getElem (by omega),List.getD_eq_getElem?_getD,List.getElem?_eq_getElem (by omega)];rfl
  have hgll:((dF p i a).map ag).length=a/3+1:=by rw[List.length_map];exact hgl
  have hKl:=hxb.1;rw[hgl];clear hgl;generalize (dF p i a).getD b 0=w at *;generalize (dF p i a).map ag=gl at *;have hb1':((b:Nat):Int)+1=((b+1:Nat):Int):=by omega
  (try simp only[aA]);refine fh ?_;refine dr rfl ((uH (i:=i) (a:=a) (b:=b+1) (by omega) (by omega) (by omega) (by omega)).mono ?_);rintro r M ⟨hx,rfl⟩;have ms:=hx.get ks;have mg:=hx.get hg;refine⟨?_,?_⟩
  ·simp only[List.take_succ_cons,List.take_zero,List.all_cons,List.all_nil,Bool.and_true,Bool.and_eq_true]
   exact⟨eu rfl ks ms hs4,eu rfl hg mg hgn⟩
  have hMM:=hMK.ex hx;have eth:thV (cT i a (b+1))=.agg #[.int .i64 ((cT i a (b+1)).1:Nat),.int .i64 ((cT i a (b+1)).2.1:Nat),.int .i64 ((cT i a (b+1)).2.2.1:Nat),.int .i64 ((cT i a (b+1)).2.2.2:Nat)]:=rfl;rw[eth];clear eth;generalize cT i a (b+1)=t at *;have hxl:=hx.1;(try simp only[aA]);repeat' ((first|refine bS ?_|refine bT rfl ?_);(try simp only[aA]))
  refine fS ?_;have hxx:Ext M _:=Ext.app M [some [Value.int .i64 (w:Nat),.int .i64 (t.1:Nat),.int .i64 (t.2.1:Nat),.int .i64 (t.2.2.1:Nat),.int .i64 (t.2.2.2:Nat)]];refine⟨hMM.ex hxx,((XB.of_ext hxG).trans hxb).trans (XB.of_ext (hx.trans hxx)),_,MvL.all,?_⟩;rw[hmv.resolve_left id];exact⟨by simp,.inr ⟨M.length,none,by omega,rfl,.inl rfl,aH⟩⟩
 ·have ha0:a=0:=by omega
  subst ha0;have hb:b=0:=h3 rfl;subst hb;clear ha h3 h4 h2 h44;have hMG:=hMG.weak (N':=fun x=>N x∧x<G.length) (fun x hx hn=>⟨hn,hx⟩);have hd44:dgA p i≤44:=by have:=iM p i;omega
  have hlen:=wo p F i left;have hLmv:=@Ac p F i left;replace hlen:False∨_:=.inr hlen;replace hLmv:False∨_:=.inr hLmv
  (refine aF (t:=false) (by simp(disch:=first|omega|(simp only[aD];omega))only[evB,bR,Nat.reduceAdd,Nat.reduceMul,Nat.reduceBEq,Int.reduceToNat,Int.reduceEq, *];try rfl) (fun h=>by cases h) (fun h=>?_);clear h;(try simp only[aA]))
  refine fh ?_;refine aC (gp (by omega) (by omega)) ?_;rintro r K ⟨hx,b,hb,rfl,hg⟩;have hMK:=(hMG.ex hx).weak (N':=fun x=>N x∧x≠b) (fun x _ hn=>⟨hn.1,by omega⟩);have hxl:=hx.1;(try simp only[aA]);repeat' ((first|refine bS ?_|refine bT rfl ?_);(try simp only[aA]))
  refine bk (fun m S M=>∃(n:Nat) (v:Value) (lb:Nat),m+n=dgA p i∧XB B G M∧G.length≤lb∧LB M v lb (jv p F i left n)∧PlanM H0 lo M B pv p F (fun x=>N x∧x≠lb)∧∃(z:Nat→Value),S=[.pointer (some ⟨B+7,0,none⟩),z 1,.int .i64 (left:Nat),.pointer (some ⟨H.length,0,none⟩),z 4,v,.int .i64 ((n+1:Nat):Int),z 7,z 8,z 9,z 10,z 11,z 12,z 13,z 14,z 15,z 16,z 17,z 18,z 19,z 20,z 21,z 22,z 23,z 24,z 25,z 26]) (dgA p i) ?_ ?_
  ·exact⟨0,_,b,rfl,XB.of_ext hx,hb,⟨none,.inl rfl,rfl,(hlen.resolve_left id 0).1,hg⟩,hMK,aE rfl⟩
  clear hMK hg hMG hb hx;rintro m S M ⟨n,v,lb,hmn,hXB,hlb,hLB,hMM,z,rfl⟩;have hMl:=hXB.1;have hlbM:=hLB.lt;have ks:=hXB.get gs (by omega);have hnl:=(hlen.resolve_left id) n;(try simp only[aA]);refine fh ?_;refine aC (mi (by omega) hMM.pl.ok.at_ hp hi) ?_;rintro r M2 ⟨e,rfl⟩;obtain rfl:=e.symm;clear e;(try simp only[aA]);refine mF (fun h=>?_) (fun h=>?_)
  ·have hn:n<dgA p i:=by simp only[decide_eq_true_eq]at h;omega
   clear h;have hvt:=E6 hi (show 1≤n+1 by omega) (show n+1≤dgA p i by omega);have hyes:=@zj p F i left n;have hno:=@BF p F i left n;replace hyes:False∨_:=.inr hyes;replace hno:False∨_:=.inr hno;(try simp only[aA]);refine fh ?_;refine aC (uH (i:=i) (a:=n+1) (b:=1) (by omega) (by omega) (by omega) (by omega)) ?_;rintro r M1 ⟨hx1,rfl⟩;have eth:thV (cT i (n+1) 1)=.agg #[.int .i64 ((cT i (n+1) 1).1:Nat),.int .i64 ((cT i (n+1) 1).2.1:Nat),.int .i64 ((cT i (n+1) 1).2.2.1:Nat),.int .i64 ((cT i (n+1) 1).2.2.2:Nat)]:=rfl;rw[eth];clear eth;generalize cT i (n+1) 1=t at *;have hx11:=hx1.1;have k1:=hx1.get ks;(try simp only[aA]);(repeat' ((first|refine bS ?_|refine bT rfl ?_);(try simp only[aA])));have hx3:Ext M (M1++[some [Value.int .i64 (t.1:Nat),.int .i64 (t.2.1:Nat),.int .i64 (t.2.2.1:Nat),.int .i64 (t.2.2.2:Nat)]]):=hx1.trans (Ext.app _ _);have g3:Heap.get (M1++[some [Value.int .i64 (t.1:Nat),.int .i64 (t.2.1:Nat),.int .i64 (t.2.2.1:Nat),.int .i64 (t.2.2.2:Nat)]]) M1.length=some [Value.int .i64 (t.1:Nat),.int .i64 (t.2.1:Nat),.int .i64 (t.2.2.1:Nat),.int .i64 (t.2.2.2:Nat)]:=aH;have hl3:(M1++[some [Value.int .i64 (t.1:Nat),.int .i64 (t.2.1:Nat),.int .i64 (t.2.2.1:Nat),.int .i64 (t.2.2.2:Nat)]]).length=M1.length+1:=by simp
   generalize M1++[some [Value.int .i64 (t.1:Nat),.int .i64 (t.2.1:Nat),.int .i64 (t.2.2.1:Nat),.int .i64 (t.2.2.2:Nat)]]=M3 at *;have hM3:=hMM.ex hx3;refine fh ?_;refine aC (xq (t:=t) hM3.pl.ok hp hvt) ?_;rintro r M5 ⟨hx5,rfl⟩;have g5:=hx5.get g3;have k5:=hx5.get (hx3.get ks);have hM5:=hM3.ex hx5;have hx51:=hx5.1;have hLB5:=hLB.ext (hx3.trans hx5);have hXB5:=hXB.trans (XB.of_ext (hx3.trans hx5));clear hM3 hMM hLB;(try simp only[aA]);refine mF (fun h=>?_) (fun h=>?_)
   ·have e:cst (bC F) t=left:=by simp only[decide_eq_true_eq]at h;omega
    clear h;have hyes:=hyes.resolve_left id e;replace hyes:False∨_:=.inr hyes;clear hno;have hs4:eK [Value.int .i64 (t.1:Nat),.int .i64 (t.2.1:Nat),.int .i64 (t.2.2.1:Nat),.int .i64 (t.2.2.2:Nat)] [Value.int .i64 (t.1:Nat),.int .i64 (t.2.1:Nat),.int .i64 (t.2.2.1:Nat),.int .i64 (t.2.2.2:Nat)]=true:=by simp[eK,iG]
    clear e;(try simp only[aA]);refine fh ?_;refine dr rfl ((vJ (N:=fun x=>N x∧x≠lb) (k:=n+1) (fun x hx=>⟨hN.resolve_left id x (by omega),by omega⟩) hM5 hp (by omega) (by omega)).mono ?_);rintro r M6 ⟨hM6,hxb6,gb,sp,hgb,rfl,hgg⟩;have g6:=hxb6.get g5 (by omega);refine⟨lz g5 g6 hs4,?_⟩;have hgl:=eg (p:=p) (i:=i) (k:=n+1) (by omega);obtain⟨g0,gt,hgt⟩:∃g0 gt,dF p i (n+1)=g0::gt:=by
     cases hc:dF p i (n+1)with
     | nil=>rw[hc]at hgl;simp at hgl
     | cons g0 gt=>exact⟨g0,gt,rfl⟩
    rw[hgt]at hgg hyes;rw[hgl];have hyes:False∨jv p F i left (n+1)=jv p F i left n++[(g0,t)]:=hyes;clear hgt hgl;have hgg:Heap.get M6 gb=some (.int .i64 (g0:Nat)::gt.map ag):=hgg;have hM6l:=hxb6.1;have hLB6:=hLB5.xb hxb6 (by omega);have hXB6:=hXB5.trans hxb6;clear hLB5 hXB5 hM5 g5 g3;(try simp only[aA]);(repeat' ((first|refine bS ?_|refine bT rfl ?_);(try simp only[aA])));have hx7:Ext M6 (M6++[some [Value.int .i64 (g0:Nat),.int .i64 (t.1:Nat),.int .i64 (t.2.1:Nat),.int .i64 (t.2.2.1:Nat),.int .i64 (t.2.2.2:Nat)]]):=Ext.app _ _;have g7:Heap.get (M6++[some [Value.int .i64 (g0:Nat),.int .i64 (t.1:Nat),.int .i64 (t.2.1:Nat),.int .i64 (t.2.2.1:Nat),.int .i64 (t.2.2.2:Nat)]]) M6.length=some (cO dV [(g0,t)]):=aH;have hl7:(M6++[some [Value.int .i64 (g0:Nat),.int .i64 (t.1:Nat),.int .i64 (t.2.1:Nat),.int .i64 (t.2.2.1:Nat),.int .i64 (t.2.2.2:Nat)]]).length=M6.length+1:=by simp
    generalize M6++[some [Value.int .i64 (g0:Nat),.int .i64 (t.1:Nat),.int .i64 (t.2.1:Nat),.int .i64 (t.2.2.1:Nat),.int .i64 (t.2.2.2:Nat)]]=M7 at *;have hM7:=(hM6.ex hx7).weak (N':=fun x=>N x∧x≠lb∧x<M7.length) (fun x hx hn=>⟨hn.1,hn.2,hx⟩);have hLB7:=hLB6.ext hx7;have hXB7:=hXB6.trans (XB.of_ext hx7);clear hM6 hLB6 hXB6 hgg g6;obtain⟨spv,hspv,hve,hvl,hvg⟩:=hLB7;subst hve;have hLB7:LB M7 (.slice (some ⟨lb,0,spv⟩) (jv p F i left n).length (jv p F i left n).length) lb (jv p F i left n):=⟨spv,hspv,rfl,hvl,hvg⟩;refine fh ?_;refine Dk (m:=[(g0,t)]) (by omega) (by omega) hLB7 (by simp) g7 (by simp only[List.length_singleton];omega) ?_;intro v8 M8 hk8 hl8 hLB8;have hM8:=(hM7.keep hk8 (by omega) (fun x hx=>hx.2.1)).weak (N':=fun x=>N x∧x≠M7.length) (fun x _ hx=>⟨hx.1,by omega⟩);have hXB8:=hXB7.keep hk8 hlb;clear hvg;(try simp only[aA]);(repeat' ((first|refine bS ?_|refine bT rfl ?_);(try simp only[aA])));rw[←hyes.resolve_left id]at hLB8;simp only[dP];exact⟨m-1,by omega,n+1,v8,M7.length,by omega,hXB8,by omega,hLB8,hM8,aE rfl⟩
   ·have e:cst (bC F) t≠left:=by simp only[decide_eq_false_iff_not]at h;omega
    clear h;have hno:=hno.resolve_left id e;clear hyes e;(try simp only[aA]);(repeat' ((first|refine bS ?_|refine bT rfl ?_);(try simp only[aA])));rw[←hno]at hLB5;simp only[dP];exact⟨m-1,by omega,n+1,v,lb,by omega,hXB5,hlb,hLB5,hM5,aE rfl⟩
  ·have hn:n=dgA p i:=by simp only[decide_eq_false_iff_not]at h;omega
   clear h;(try simp only[aA]);(repeat' ((first|refine bS ?_|refine bT rfl ?_);(try simp only[aA])));refine fS ?_;subst hn;obtain⟨spv,hspv,hve,hvl,hvg⟩:=hLB;refine⟨hMM.weak (fun x _ hx=>hx.1),(XB.of_ext hxG).trans hXB,_,hLmv.resolve_left id,?_,.inr ⟨lb,spv,by omega,hve,hspv,hvg⟩⟩;omega
structure EncW (p:List UInt8)(ws:List Nat):Prop where
 len:ws.length≤2*p.length
 w:∀w ∈ ws,w≤928
 dec:sb (ws.map Int.ofNat)=(p,0)
end Go.Proofs.YtgpolmomghejoaaDoor
