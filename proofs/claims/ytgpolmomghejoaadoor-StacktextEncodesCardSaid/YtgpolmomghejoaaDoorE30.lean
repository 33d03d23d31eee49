/- Lemmas. -/
import Derived.Test.YtgpolmomghejoaaDoorE29
set_option linter.unusedVariables false
set_option linter.unusedSimpArgs false
set_option linter.unusedSectionVars false
namespace Go.Proofs.YtgpolmomghejoaaDoor
open Go.Abs
set_option maxRecDepth 20000
theorem zI{A lo:Nat}{H K:Heap}{w:Value}{b:Nat}{c:List Value}(h:Own lo 1 H w b c)(hA:A≤b)(e:Ext H K)(hlo:lo≤K.length)(hAK:A≤K.length):∃b2,A≤b2∧Own lo 1 K w b2 c∧(b2<H.length∨K.length≤b2):=by
 obtain⟨h1,⟨rfl,rfl⟩|⟨n,h2,h3,h4,h5⟩⟩:=h
 ·exact⟨K.length,hAK,Own.nil hlo,.inr (Nat.le_refl _)⟩
 ·exact⟨b,hA,⟨h1,.inr ⟨n,h2,h3,h4,e.get h5⟩⟩,.inl (Heap.get_lt h5)⟩
def mvI(s:Nat):Nat→Nat→Int
 | 0,_=>-1
 | c+1,t=>if mvI s c t<0∧eE [] s c=some (0,t) then(c:Nat) else mvI s c t
def mvF(s t:Nat):Int:=if t=0∧mvI s (if s<8 then 900 else 0) 0<0 then 900 else mvI s (if s<8 then 900 else 0) t
theorem oS(s:Nat):∀c t,-1≤mvI s c t∧mvI s c t≤(c:Nat)
 | 0,_=>by simp[mvI]
 | c+1,t=>by
  have:=oS s c t;simp only[mvI];split<;>omega
structure RowI (H:Heap)(b:Nat)(f:Nat→Int)(cs:List Value):Prop where
 get:H.get b=some cs
 len:cs.length=9
 at_:∀t,t<9→cs[t]?=some (.int .i64 (f t))
theorem RowI.mono{H H':Heap}{b:Nat}{f:Nat→Int}{cs:List Value}(h:RowI H b f cs)(e:Ext H H'):RowI H' b f cs:=⟨e.get h.get,h.len,h.at_⟩
theorem RowI.keep{x:Nat}{H H':Heap}{b:Nat}{f:Nat→Int}{cs:List Value}(h:RowI H b f cs)(e:Keep x H H')(hb:b≠x):RowI H' b f cs:=⟨e.get h.get hb,h.len,h.at_⟩
theorem RowI.cong{H:Heap}{b:Nat}{f g:Nat→Int}{cs:List Value}(h:RowI H b f cs)(e:∀t,t<9→f t=g t):RowI H b g cs:=⟨h.get,h.len,fun t ht=>by rw[←e t ht];exact h.at_ t ht⟩
theorem RowI.set{H:Heap}{b t:Nat}{f g:Nat→Int}{cs:List Value}{x:Int}(h:RowI H b f cs)(ht:t<9)(e:∀u,u<9→g u=if u=t then x else f u):RowI (H.set b (some (cs.set t (.int .i64 x)))) b g (cs.set t (.int .i64 x)):=by
 refine⟨aN (Heap.get_lt h.get),by rw[List.length_set];exact h.len,fun u hu=>?_⟩;by_cases q:u=t
 ·subst q
  rw[List.getElem?_set_self (by rw[h.len];exact hu),e u hu,if_pos rfl]
 ·rw[List.getElem?_set_ne (fun z=>q z.symm),e u hu,if_neg q]
  exact h.at_ u hu
structure MovH (A:Nat)(H:Heap)(v:Value):Prop where
 tab:∃(B:Nat) (xs:List Value) (mb:Nat→Nat),v=.slice (some ⟨B,0,some 1⟩) 9 9∧A≤B∧B<H.length∧H.get B=some xs∧xs.length=9∧∀s,s<9→xs[s]?=some (gF (mb s))∧A≤mb s∧mb s<H.length∧∃cs,RowI H (mb s) (mvF s) cs
theorem MovH.mono{A:Nat}{H H':Heap}{v:Value}(h:MovH A H v)(e:Ext H H'):MovH A H' v:=by
 obtain⟨B,xs,mb,h1,h2,h3,h4,h5,h6⟩:=h.tab;refine⟨B,xs,mb,h1,h2,Nat.lt_of_lt_of_le h3 e.1,e.get h4,h5,fun s hs=>?_⟩;obtain⟨q1,q2,q3,cs,q4⟩:=h6 s hs;exact⟨q1,q2,Nat.lt_of_lt_of_le q3 e.1,cs,q4.mono e⟩
theorem fT{P:Prop}(h:P:=by simp(disch:=first|omega|(simp only[aD];omega))only[evB,cH,Nat.reduceAdd,Nat.reduceMul,Nat.reduceBEq,Int.reduceToNat,Int.reduceEq,Int.reduceNe,Int.reduceLT, *];rfl):P:=h
theorem bx{cp:FuncId→Option CF}{lo:Nat}{l:List (Nat×E)}{chk:List E}{Q:aX}{S:List Value}{H:Heap}{vs:List (Nat×Value)}{S':List Value}(k:Q .normal S' H)(h:evSets S H l=some vs:=by exact fT)(hc:evChk S H chk=true:=by simp(disch:=first|omega|(simp only[aD];omega))only[evB,cH,Nat.reduceAdd,Nat.reduceMul,Nat.reduceBEq,Int.reduceToNat,Int.reduceEq,Int.reduceNe,Int.reduceLT, *])(hS:setAll S vs=S':=by exact fT):wpS cp lo (.sets l chk) Q S H:=eF h hc hS k
theorem ke{cp:FuncId→Option CF}{lo:Nat}{l:List (Nat×E)}{chk:List E}{Q:aX}{S:List Value}{H:Heap}{vs:List (Nat×Value)}{dst:Option Nat}{o:HOp}{a:E}{xs:List Value}(k:wpH cp lo o xs H fun v H'=>Q .normal (setD (setAll S vs) dst v) H')(h:evSets S H l=some vs:=by exact fT)(hc:evChk S H chk=true:=by simp(disch:=first|omega|(simp only[aD];omega))only[evB,cH,Nat.reduceAdd,Nat.reduceMul,Nat.reduceBEq,Int.reduceToNat,Int.reduceEq,Int.reduceNe,Int.reduceLT, *])(ha:ev S H a=some xs:=by exact fT):wpS cp lo (.hv l chk [] dst o a) Q S H:=gG h hc ha k
theorem bz{cp:FuncId→Option CF}{lo:Nat}{l:List (Nat×E)}{chk:List E}{Q:aX}{S:List Value}{H:Heap}{vs:List (Nat×Value)}{dst:Option Nat}{o:HOp}{a:E}{xs:List Value}{S':List Value}{H':Heap}{v:Value}(hcall:o.isCall=false)(k:Q .normal S' H')(h:evSets S H l=some vs:=by exact fT)(hc:evChk S H chk=true:=by simp(disch:=first|omega|(simp only[aD];omega))only[evB,cH,Nat.reduceAdd,Nat.reduceMul,Nat.reduceBEq,Int.reduceToNat,Int.reduceEq,Int.reduceNe,Int.reduceLT, *])(ha:ev S H a=some xs:=by exact fT)(ho:aR lo o xs H=some (v,H'):=by exact fT)(hS:setD (setAll S vs) dst v=S':=by exact fT):wpS cp lo (.hv l chk [] dst o a) Q S H:=eV hcall h hc ha ho hS k
theorem rh{cp:FuncId→Option CF}{lo:Nat}{c:E}{a b:Stm}{Q:aX}{S:List Value}{H:Heap}{t:Bool}(k1:t=true→wpS cp lo a Q S H)(k2:t=false→wpS cp lo b Q S H)(h:ev1 S H c=some (.bool t):=by exact fT):wpS cp lo (.cond c a b) Q S H:=aF h k1 k2
theorem Bn{cf:CF}{R:Value→Heap→Prop}{S:List Value}{H:Heap}{vs:List Value}(k:R (aP vs) H)(h:evList S H cf.res=some vs:=by exact fT):aS cf R .ret S H:=eM h k
theorem EU{lo:Nat}{H:Heap}(hlo:lo≤H.length):Ev cp lo 37 [] H (fun r H'=>Ext H H'∧MovH H.length H' r):=by
 refine IE ?_;unfold Ek zN;simp only[kB,aA];repeat' ((first|refine bx ?_|refine bz rfl ?_);(try simp only[aA]))
 refine ai (fun s S H'=>Ext H H'∧∃(w:Value) (b:Nat) (l:List Nat),H.length≤b∧Own lo 1 H' w b (l.map gF)∧l.length=s∧(∀t,t<s→H.length≤l.getD t 0∧l.getD t 0<H'.length∧(∃cs,RowI H' (l.getD t 0) (mvF t) cs)∧l.getD t 0≠b∨False)∧∃(z:Nat→Value),S=[z 0,w,.int .i64 (s:Nat),z 3,z 4,z 5,z 6,z 7,z 8,z 9,z 10,z 11,z 12,z 13,z 14,z 15]) 9 ?_ ?_ ?_ ?_
 ·exact⟨Ext.refl _,_,H.length,[],Nat.le_refl _,Own.nil hlo,rfl,fun t ht=>by omega,aE rfl⟩
 ·rintro s S H' hs ⟨-,w,b,l,-,-,-,-,z,rfl⟩
  exact⟨_,fT,by simp;omega⟩
 ·rintro s S H1 hs ⟨hx,w,b,l,hb,ho,hl,hrows,z,rfl⟩
  have hl1:=hx.1;replace hl:False∨_:=.inr hl;obtain⟨aw,nw,rfl,-,-⟩:=ho.len (by decide);(try simp only[aA]);repeat' ((first|refine bx ?_|refine bz rfl ?_);(try simp only[aA]))
  refine ai (fun k S H'=>Ext H1 H'∧∃(u:Value) (x:Nat),H1.length≤x∧Own lo 1 H' u x (List.replicate k (Value.int .i64 (-1)))∧∃(z:Nat→Value),S=[z 0,.slice aw nw nw,.int .i64 (s:Nat),u,.int .i64 (k:Nat),z 5,z 6,z 7,z 8,z 9,z 10,z 11,z 12,z 13,z 14,z 15]) 9 ?_ ?_ ?_ ?_
  ·exact⟨Ext.refl _,_,H1.length,Nat.le_refl _,Own.nil (by omega),aE rfl⟩
  ·rintro k S H' hk ⟨-,u,x,-,-,z,rfl⟩
   exact⟨_,fT,by simp;omega⟩
  ·rintro k S H2 hk ⟨hx2,u,x,hxx,hou,z,rfl⟩
   have hl2:=hx2.1;have hxd:=Ext.push H2 (some [Value.int .i64 (-1)]);have hou2:=hou.mono hxd;obtain⟨au,nu,rfl,-,-⟩:=hou.len (by decide);(try simp only[aA]);(repeat' ((first|refine bx ?_|refine bz rfl ?_);(try simp only[aA])));refine ke ?_;refine eG (c':=[Value.int .i64 (-1)]) (c:=[Value.int .i64 (-1)]) hou2 (by simp;omega) (by decide) (by decide) (by simp;omega) aH (by simp) rfl rfl ?_;intro v' H3 ho3 hk3 hl3;have hx3:=hk3.ext (hx2.trans hxd) hxx;rw[←List.replicate_succ']at ho3;clear hou hou2;simp only[List.length_append,List.length_cons,List.length_nil]at ho3 hl3;(try simp only[aA]);(repeat' ((first|refine bx ?_|refine bz rfl ?_);(try simp only[aA])));exact⟨hx3,v',_,by omega,ho3,aE (by first|rfl|(simp only[Int.natCast_add,Int.natCast_one];rfl)|simp only[Int.natCast_add,Int.natCast_one])⟩
  rintro S H2 ⟨hx2,u,x,hxx,hou,z,rfl⟩;have hl2:=hx2.1;obtain⟨-,⟨-,h0⟩|⟨n,hn,hn2,rfl,gx⟩⟩:=hou
  ·simp at h0
  have hn9:n=9:=by simpa using hn2
  subst hn9;have hrow:RowI H2 x (mvI s 0) (List.replicate 9 (Value.int .i64 (-1))):=⟨gx,by simp,fun t ht=>by rw[List.getElem?_replicate,if_pos ht];rfl⟩;have hxl:=Heap.get_lt gx;obtain⟨N,hN⟩:∃N,(if s<8 then 900 else 0)=N:=⟨_,rfl⟩;have hN2:N≤900∧(0<N→s<8)∧(s<8→N=900):=by rw[←hN];split<;>omega
  generalize List.replicate 9 (Value.int .i64 (-1))=cs at *;clear hn2 hn gx;replace hN:False∨_:=.inr hN;replace ho:False∨_:=.inr ho;(try simp only[aA]);repeat' ((first|refine bx ?_|refine bz rfl ?_);(try simp only[aA]))
  refine ai (fun c S H'=>Keep x H2 H'∧H'.length≤H2.length∧(∃cs,RowI H' x (mvI s c) cs)∧∃(z:Nat→Value),S=[z 0,.slice aw nw nw,.int .i64 (s:Nat),.slice (some ⟨x,0,some 1⟩) 9 9,z 4,.int .i64 (c:Nat),z 6,z 7,z 8,z 9,z 10,z 11,z 12,z 13,z 14,z 15]) N ?_ ?_ ?_ ?_
  ·exact⟨⟨Nat.le_refl _,fun _ _ _=>rfl⟩,Nat.le_refl _,⟨cs,hrow⟩,aE rfl⟩
  ·rintro c S H' hc ⟨-,-,-,z,rfl⟩
   refine⟨decide (c<900)&&decide (s<8),?_,?_⟩
   ·by_cases h1:c<900
    ·have e1:((c:Nat):Int)<900:=by omega
     have e2:decide (((c:Nat):Int)<900)=true:=decide_eq_true e1;have e3:decide (c<900)=true:=decide_eq_true h1;clear h1 e1;by_cases h2:s<8
     ·have e4:decide (((s:Nat):Int)<8)=true:=decide_eq_true (by omega)
      have e5:decide (s<8)=true:=decide_eq_true h2;clear h2;rw[e5];simp(disch:=first|omega|(simp only[aD];omega))only[evB,cH,Nat.reduceAdd,Nat.reduceMul,Nat.reduceBEq,Int.reduceToNat,Int.reduceEq,Int.reduceNe,Int.reduceLT, *];try rfl
     ·have e4:decide (((s:Nat):Int)<8)=false:=decide_eq_false (by omega)
      have e5:decide (s<8)=false:=decide_eq_false h2;clear h2;rw[e5];simp(disch:=first|omega|(simp only[aD];omega))only[evB,cH,Nat.reduceAdd,Nat.reduceMul,Nat.reduceBEq,Int.reduceToNat,Int.reduceEq,Int.reduceNe,Int.reduceLT, *];try rfl
    ·have e2:decide (((c:Nat):Int)<900)=false:=decide_eq_false (by omega)
     have e3:decide (c<900)=false:=decide_eq_false h1;clear h1;rw[e3];simp(disch:=first|omega|(simp only[aD];omega))only[evB,cH,Nat.reduceAdd,Nat.reduceMul,Nat.reduceBEq,Int.reduceToNat,Int.reduceEq,Int.reduceNe,Int.reduceLT, *];try rfl
   ·simp;omega
  ·clear hrow
   rintro c S H3 hc ⟨hk,hlk,⟨ds,hrow⟩,z,rfl⟩;have hs8:s<8:=hN2.2.1 (by omega);have hle:=oS s c;have hst:∀t,mvI s (c+1) t=if mvI s c t<0∧eE [] s c=some (0,t) then((c:Nat):Int) else mvI s c t:=fun t=>rfl
   have hPs:=fun n t (h:eE [] s c=some (n,t))=>lK hs8 (show c<900 by omega) h;replace hst:False∨_:=.inr hst;have gr:=hrow.get;have hrl:=hrow.len;have hkl:=hk.1;(try simp only[aA]);refine ke ?_;refine aC (zw (l:=[]) (.inl ⟨rfl,rfl⟩) hs8 (by omega)) ?_;rintro r K ⟨rfl,rfl⟩;unfold oH;generalize hpq:eE [] s c=pq at *;replace hpq:False∨_:=.inr hpq;cases pq with
   | none=>
    have hrow':RowI K x (mvI s (c+1)) ds:=hrow.cong fun t ht=>by rw[hst.resolve_left id t,if_neg (fun e=>by cases e.2)]
    clear hst hPs hrow hle;(try simp only[aA]);(repeat' ((first|refine bx ?_|refine bz rfl ?_);(try simp only[aA])));refine aF (t:=false) (by simp(disch:=first|omega|(simp only[aD];omega))only[evB,cH,Nat.reduceAdd,Nat.reduceMul,Nat.reduceBEq,Int.reduceToNat,Int.reduceEq,Int.reduceNe,Int.reduceLT, *];try rfl) (fun h=>by cases h) (fun h=>?_);clear h;(try simp only[aA]);(repeat' ((first|refine bx ?_|refine bz rfl ?_);(try simp only[aA])));exact⟨hk,hlk,⟨ds,hrow'⟩,aE (by first|rfl|(simp only[Int.natCast_add,Int.natCast_one];rfl)|simp only[Int.natCast_add,Int.natCast_one])⟩
   | some q=>
    obtain⟨n,t⟩:=q;obtain⟨-,hnl,ht8⟩:=hPs n t rfl;have hn0:n=0:=Nat.le_zero.1 hnl;subst hn0;have gt:=hrow.at_ t (by omega);have hlt:=hle t;generalize hm:mvI s c t=m at *;replace hm:False∨_:=.inr hm;clear hPs hle hnl;(try simp only[aA]);(repeat' ((first|refine bx ?_|refine bz rfl ?_);(try simp only[aA])));refine rh (fun h=>?_) (fun h=>?_)
    ·have hneg:m<0:=by simpa using h
     clear h;have hrow':=hrow.set (g:=mvI s (c+1)) (x:=((c:Nat):Int)) (show t<9 by omega) fun u hu=>by
      rw[hst.resolve_left id u];by_cases q:u=t
      ·subst q;rw[if_pos ⟨by rw[hm.resolve_left id];exact hneg,rfl⟩,if_pos rfl]
      ·rw[if_neg (fun e=>q (by have:=e.2;injection this with this;injection this with _ this;exact this.symm)),if_neg q]
     have hk':Keep x H2 (K.set x (some (ds.set t (.int .i64 ((c:Nat):Int))))):=⟨by simp;omega,fun i hi hne=>by rw[aM (fun e=>hne e.symm)];exact hk.2 i hi hne⟩;clear hst hrow hm;(try simp only[aA]);(repeat' ((first|refine bx ?_|refine bz rfl ?_);(try simp only[aA])));exact⟨hk',by simp;omega,⟨_,hrow'⟩,aE (by first|rfl|(simp only[Int.natCast_add,Int.natCast_one];rfl)|simp only[Int.natCast_add,Int.natCast_one])⟩
    ·have hneg:¬ m<0:=by simpa using h
     clear h;have hrow':RowI K x (mvI s (c+1)) ds:=hrow.cong fun u hu=>by
      rw[hst.resolve_left id u];by_cases q:u=t
      ·subst q;rw[if_neg (fun e=>hneg (by rw[←hm.resolve_left id];exact e.1))]
      ·rw[if_neg (fun e=>q (by have:=e.2;injection this with this;injection this with _ this;exact this.symm))]
     clear hst hrow hm;(try simp only[aA]);(repeat' ((first|refine bx ?_|refine bz rfl ?_);(try simp only[aA])));exact⟨hk,hlk,⟨ds,hrow'⟩,aE (by first|rfl|(simp only[Int.natCast_add,Int.natCast_one];rfl)|simp only[Int.natCast_add,Int.natCast_one])⟩
  clear hrow;rintro S H3 ⟨hk,hlk,⟨ds,hrow⟩,z,rfl⟩;have hkl:=hk.1;have hx3:=hk.ext hx2 hxx;have hl3:=hx3.1;have hfin:∀t,mvF s t=if t=0∧mvI s N 0<0 then 900 else mvI s N t:=by rw[←hN.resolve_left id];exact fun t=>rfl
  have g0:=hrow.at_ 0 (by decide);have gr:=hrow.get;have hrl:=hrow.len;generalize hm:mvI s N 0=m at *;replace hm:False∨_:=.inr hm;replace hfin:False∨_:=.inr hfin;(try simp only[aA]);refine dq (fun S H'=>Ext H1 H'∧(∃cs,RowI H' x (mvF s) cs)∧∃(z:Nat→Value),S=[z 0,.slice aw nw nw,.int .i64 (s:Nat),.slice (some ⟨x,0,some 1⟩) 9 9,z 4,z 5,z 6,z 7,z 8,z 9,z 10,z 11,z 12,z 13,z 14,z 15]) ?_ ?_
  ·refine rh (fun h=>?_) (fun h=>?_)
   ·have hneg:m<0:=by simpa using h
    clear h;have hrow':=hrow.set (g:=mvF s) (x:=900) (show 0<9 by decide) fun u hu=>by
     rw[hfin.resolve_left id u];by_cases q:u=0
     ·subst q;rw[if_pos ⟨rfl,hneg⟩,if_pos rfl]
     ·rw[if_neg (fun e=>q e.1),if_neg q]
    have hk':Keep x H3 (H3.set x (some (ds.set 0 (.int .i64 900)))):=⟨by simp,fun i hi hne=>aM (fun e=>hne e.symm)⟩;have hx4:=hk'.ext hx3 hxx;clear hfin hrow hm hk';(try simp only[aA]);(repeat' ((first|refine bx ?_|refine bz rfl ?_);(try simp only[aA])));exact⟨hx4,⟨_,hrow'⟩,aE rfl⟩
   ·have hneg:¬ m<0:=by simpa using h
    clear h;have hrow':RowI H3 x (mvF s) ds:=hrow.cong fun u hu=>by
     rw[hfin.resolve_left id u];rw[if_neg (fun e=>hneg e.2)]
    clear hfin hrow hm;(try simp only[aA]);exact⟨hx3,⟨_,hrow'⟩,aE rfl⟩
  clear hrow hfin hm g0 gr;rintro S H4 ⟨hx4,⟨es,hrow⟩,z,rfl⟩;have hl4:=hx4.1;have ho:=ho.resolve_left id;have hxl4:=Heap.get_lt hrow.get;have hxd:=Ext.push H4 (some [gF x]);obtain⟨b2,hb2,ho2,hne⟩:=zI (K:=H4++[some [gF x]]) ho hb (hx4.trans hxd) (by simp;omega) (by simp;omega);have hne2:x≠b2:=by
   rcases hne with h|h
   ·omega
   ·simp at h;omega
  have ge:H4++[some [Value.slice (some ⟨x,0,some 1⟩) 9 9]]=H4++[some [gF x]]:=rfl;clear ho;have hl9:=hl.resolve_left id;(try simp only[aA]);repeat' ((first|refine bx ?_|refine bz rfl ?_);(try simp only[aA]))
  clear ge;refine ke ?_;refine eG (c':=[gF x]) (c:=[gF x]) ho2 (by simp;omega) (by decide) (by decide) (by simp;omega) aH (by simp) rfl rfl ?_;intro v' H5 ho5 hk5 hl5;have hx5:=hk5.ext ((hx.trans hx4).trans hxd) hb2;simp only[List.length_append,List.length_cons,List.length_nil]at ho5 hl5;have ho6:Own lo 1 H5 v' (H4.length+1) ((l++[x]).map gF):=by rw[List.map_append];exact ho5
  have hrow5:RowI H5 x (mvF s) es:=(hrow.mono hxd).keep hk5 hne2;have hrows':∀t,t<s+1→H.length≤(l++[x]).getD t 0∧(l++[x]).getD t 0<H5.length∧(∃cs,RowI H5 ((l++[x]).getD t 0) (mvF t) cs)∧(l++[x]).getD t 0≠H4.length+1∨False:=by
   intro t ht;by_cases e:t=s
   ·subst e
    have:(l++[x]).getD t 0=x:=by rw[List.getD_eq_getElem?_getD,List.getElem?_append_right (by omega),hl9];simp
    rw[this];exact .inl ⟨by omega,by omega,⟨es,hrow5⟩,by omega⟩
   ·have:(l++[x]).getD t 0=l.getD t 0:=by rw[List.getD_eq_getElem?_getD,List.getElem?_append_left (by omega),←List.getD_eq_getElem?_getD]
    rw[this];obtain⟨q1,q2,⟨cs,q3⟩,q4⟩:=(hrows t (by omega)).resolve_right id;have hneq:l.getD t 0≠b2:=by
     intro e;have g1:=((q3.mono hx4).mono hxd).get;rw[e]at g1;obtain⟨-,⟨-,h0⟩|⟨n,h1,h2,h3,h4⟩⟩:=ho2
     ·have:l=[]:=by simpa using h0
      subst this;simp at hl9;omega
     ·rw[g1]at h4
      injection h4 with h4;have g3:=q3.at_ 0 (by decide);rw[h4]at g3;cases l with
      | nil=>simp at g3
      | cons z l=>simp[gF]at g3
    exact .inl ⟨q1,by omega,⟨cs,((q3.mono hx4).mono hxd).keep hk5 hneq⟩,by omega⟩
  clear hrows hrow hrow5 ho2 ho5 hl9;(try simp only[aA]);repeat' ((first|refine bx ?_|refine bz rfl ?_);(try simp only[aA]))
  exact⟨hx5,v',H4.length+1,l++[x],by omega,ho6,by have:=hl.resolve_left id;simp;omega,hrows',aE (by first|rfl|(simp only[Int.natCast_add,Int.natCast_one];rfl)|simp only[Int.natCast_add,Int.natCast_one])⟩
 rintro S H1 ⟨hx,w,b,l,hb,ho,hl,hrows,z,rfl⟩;obtain⟨-,⟨-,h0⟩|⟨n,hn,hn2,rfl,gx⟩⟩:=ho
 ·have:l=[]:=by simpa using h0
  subst this;simp at hl
 have hn9:n=9:=by rw[←hl];simpa using hn2
 subst hn9;replace hl:False∨_:=.inr hl;have hxl:=Heap.get_lt gx;clear hn2 hn;(try simp only[aA]);repeat' ((first|refine bx ?_|refine bz rfl ?_);(try simp only[aA]))
 refine Bn ?_;refine⟨hx,⟨b,l.map gF,fun t=>l.getD t 0,rfl,hb,hxl,gx,by rw[List.length_map];exact hl.resolve_left id,fun s hs=>?_⟩⟩;obtain⟨q1,q2,q3,q4⟩:=(hrows s hs).resolve_right id;refine⟨?_,q1,q2,q3⟩;show _=some (gF (l.getD s 0));rw[List.getElem?_map,List.getD_eq_getElem?_getD,List.getElem?_eq_getElem (by have:=hl.resolve_left id;omega)];rfl
theorem BM{p:List UInt8}{t:Thr}{i:Nat}{v:List Nat}(h:Acc p (6,i,0,0) v)(hc:ik p t i)(hf:i=p.length→nb p t):Acc p t v:=by
 cases v with
 | nil=>exact hf h
 | cons x v=>obtain⟨t',h3,h4⟩:=h;exact⟨t',hc _ h3,h4⟩
def rG(l:List UInt8):List Nat:=jI l (l.length/6)++(l.drop (6*(l.length/6))).map UInt8.toNat
theorem qX(l:List UInt8):kl l=(if l.length%6=0 then 924 else 901)::rG l:=rfl
theorem qE(l:List UInt8):∀g,jI l (g+1)=jT (v6 l 0)++jI (l.drop 6) g
 | 0=>by simp[jI]
 | g+1=>by
  have h:v6 l (6*(g+1))=v6 (l.drop 6) (6*g):=by unfold v6;rw[List.drop_drop,show 6*(g+1)=6+6*g by omega]
  rw[jI,qE l g,h,List.append_assoc];rfl
theorem re{l:List UInt8}(h:6≤l.length):rG l=jT (v6 l 0)++rG (l.drop 6):=by
 have e:l.length/6=(l.length-6)/6+1:=by omega
 unfold rG;rw[e,qE,List.length_drop,List.drop_drop,show 6+6*((l.length-6)/6)=6*((l.length-6)/6+1) by omega,List.append_assoc]
theorem iC{l:List UInt8}(h:l.length<6):rG l=l.map UInt8.toNat:=by
 unfold rG;rw[Nat.div_eq_of_lt h];simp[jI]
theorem yC{p:List UInt8}{i n:Nat}(h:6≤n):v6 ((p.drop i).take n) 0=v6 p i:=by
 unfold v6;rw[List.drop_zero,List.take_take,Nat.min_eq_left h]
theorem j8{p:List UInt8}{i n k:Nat}(h:k≤n):((p.drop i).take n).drop k=(p.drop (i+k)).take (n-k):=by
 rw[List.drop_take,List.drop_drop]
theorem kL(N:Nat){a:Nat}(h:a<5):(jT N).drop a=N/900^(4-a)%900::(jT N).drop (a+1):=by
 rw[List.drop_eq_getElem_cons (by rw[gN];exact h)];simp[jT]
theorem Gl{p:List UInt8}{k i a:Nat}(hk:k=2∨k=3)(ha:1≤a){x:Nat}{t:Thr}:(x,t) ∈ bK p (k,i,a,0)↔i+6≤p.length∧x=v6 p i/900^(4-a)%900∧t=(if a=4 then(k,i+6,0,0) else(k,i,a+1,0)):=by
 have h0:¬ (a=0):=by omega
 rcases hk with rfl|rfl<;>simp only[bK,h0,false_and,if_false,List.nil_append]<;>split<;>simp_all<;>intro h<;>omega
theorem rT{p:List UInt8}{k i:Nat}(hk:k=2∨k=3):∀n a,a+n=4→1≤a→∀{w:List Nat},Acc p (k,i,a,0) w→i+6≤p.length∧∃v,w=(jT (v6 p i)).drop a++v∧Acc p (k,i+6,0,0) v
 | n,a,ha,h1,[],h=>by rcases hk with rfl|rfl<;>simp[Acc,nb]at h<;>omega
 | n,a,ha,h1,x::w,h=>by
  obtain⟨t,hm,h⟩:=h;obtain⟨h6,rfl,rfl⟩:=(Gl hk h1).1 hm;refine⟨h6,?_⟩;rw[kL _ (by omega)];by_cases e:a=4
  ·subst e
   rw[if_pos rfl]at h;refine⟨w,?_,h⟩;rw[List.drop_eq_nil_of_le (by rw[gN];decide)];rfl
  ·rw[if_neg e]at h
   obtain⟨m,rfl⟩:∃m,n=m+1:=⟨n-1,by omega⟩;obtain⟨-,v,rfl,hv⟩:=rT hk m (a+1) (by omega) (by omega) h;exact⟨v,rfl,hv⟩
theorem sG{p:List UInt8}{k i:Nat}(hk:k=2∨k=3)(h6:i+6≤p.length){v:List Nat}(h:Acc p (k,i+6,0,0) v):∀n a,a+n=4→1≤a→Acc p (k,i,a,0) ((jT (v6 p i)).drop a++v)
 | n,a,ha,h1=>by
  rw[kL _ (by omega)];refine⟨_,(Gl hk h1).2 ⟨h6,rfl,rfl⟩,?_⟩;by_cases e:a=4
  ·subst e
   rw[if_pos rfl,List.drop_eq_nil_of_le (by rw[gN];decide)];exact h
  ·rw[if_neg e]
   exact sG hk h6 h (n-1) (a+1) (by omega) (by omega)
theorem Az{p:List UInt8}{k i:Nat}(hk:k=2∨k=3)(h6:i+6≤p.length):(v6 p i/900^4%900,((k,i,1,0):Thr)) ∈ bK p (k,i,0,0):=by
 rcases hk with rfl|rfl<;>simp[bK,h6]
theorem AR{p:List UInt8}{k i:Nat}(hk:k=2∨k=3)(h6:i+6≤p.length){v:List Nat}(h:Acc p (k,i+6,0,0) v):Acc p (k,i,0,0) (jT (v6 p i)++v):=by
 have e:=kL (v6 p i) (a:=0) (by decide);rw[List.drop_zero]at e;rw[e];exact⟨_,Az hk h6,sG hk h6 h 3 1 rfl (Nat.le_refl _)⟩
theorem qH{p:List UInt8}:∀(w:List Nat) {i a:Nat},1≤a→a≤5→i≤p.length→Acc p (4,i,a,0) w→∃m v,a+m≤5∧i+m≤p.length∧w=((p.drop i).take m).map UInt8.toNat++v∧Acc p (6,i+m,0,0) v
 | [],i,a,h1,h5,hi,h=>⟨0,[],by omega,by omega,by simp,h⟩
 | x::w,i,a,h1,h5,hi,h=>by
  obtain⟨t,hm,h⟩:=h;simp only[bK,List.mem_append]at hm;rcases hm with hm|hm
  ·split at hm
   ·rename_i hlt
    simp only[List.mem_cons,List.not_mem_nil,or_false,Prod.mk.injEq]at hm;obtain⟨rfl,rfl⟩:=hm;obtain⟨m,v,q1,q2,rfl,q4⟩:=qH w (by omega) (by omega) (by omega) h;refine⟨m+1,v,by omega,by omega,?_,by rw[show i+(m+1)=i+1+m by omega];exact q4⟩;rw[List.drop_eq_getElem_cons hlt.2,List.take_succ_cons,List.map_cons,List.cons_append];simp only[byA,List.getD_eq_getElem?_getD,List.getElem?_eq_getElem hlt.2,Option.getD_some]
   ·simp at hm
  ·exact⟨0,x::w,by omega,by omega,by simp,⟨t,hm,h⟩⟩
theorem sI{p:List UInt8}:∀(m:Nat) {i a:Nat},1≤a→a+m≤5→i+m≤p.length→∀{v:List Nat},Acc p (6,i+m,0,0) v→Acc p (4,i,a,0) (((p.drop i).take m).map UInt8.toNat++v)
 | 0,i,a,h1,h5,hi,v,h=>by
  rw[List.take_zero];exact BM h (Gp p i a 0) (fun e=>e)
 | m+1,i,a,h1,h5,hi,v,h=>by
  rw[List.drop_eq_getElem_cons (by omega)];refine⟨(4,i+1,a+1,0),?_,sI m (by omega) (by omega) (by omega) (by rw[show i+1+m=i+(m+1) by omega];exact h)⟩;simp only[bK,List.mem_append];refine .inl ?_;rw[if_pos ⟨by omega,by omega⟩];simp[byA,List.getD_eq_getElem?_getD,List.getElem?_eq_getElem (show i<p.length by omega)]
theorem nr{p:List UInt8}{k:Nat}(hk:k=2∨k=3):∀(L:Nat) (w:List Nat) {i:Nat},w.length≤L→i≤p.length→Acc p (k,i,0,0) w→∃n v,i+n≤p.length∧(k=2→n%6=0)∧(k=3→n%6≠0)∧w=rG ((p.drop i).take n)++v∧Acc p (6,i+n,0,0) v
 | L,[],i,hL,hi,h=>by
  rcases hk with rfl|rfl
  ·exact⟨0,[],by omega,by simp,by simp,by simp[iC],h.1⟩
  ·exact h.elim
 | L,x::w,i,hL,hi,h=>by
  obtain⟨t,hm,h⟩:=h;have key:(k=2∧(x,t) ∈ dE i)∨(k=3∧i<p.length∧x=byA p i∧t=(4,i+1,1,0))∨(i+6≤p.length∧x=v6 p i/900^4%900∧t=(k,i,1,0)):=by
   rcases hk with rfl|rfl<;>simp only[bK,List.mem_append]at hm<;>rcases hm with hm|hm|hm
   ·exact .inl ⟨rfl,by simpa using hm⟩
   ·simp at hm
   ·split at hm
    ·simp at hm;exact .inr (.inr ⟨by assumption,hm.1,hm.2⟩)
    ·simp at hm
   ·simp at hm
   ·split at hm
    ·rename_i hc;simp at hm;exact .inr (.inl ⟨rfl,hc.2.2,hm.1,hm.2⟩)
    ·simp at hm
   ·split at hm
    ·simp at hm;exact .inr (.inr ⟨by assumption,hm.1,hm.2⟩)
    ·simp at hm
  rcases key with ⟨rfl,hc⟩|⟨rfl,hlt,rfl,rfl⟩|⟨h6,rfl,rfl⟩
  ·exact⟨0,x::w,by omega,by simp,by simp,by simp[iC],⟨t,hc,h⟩⟩
  ·obtain⟨m,v,q1,q2,rfl,q4⟩:=qH w (by omega) (by omega) (by omega) h
   refine⟨m+1,v,by omega,by simp,fun _=>by omega,?_,by rw[show i+(m+1)=i+1+m by omega];exact q4⟩;rw[iC (by simp;omega),List.drop_eq_getElem_cons hlt,List.take_succ_cons,List.map_cons,List.cons_append];simp only[byA,List.getD_eq_getElem?_getD,List.getElem?_eq_getElem hlt,Option.getD_some]
  ·obtain⟨-,w2,rfl,hw2⟩:=rT hk 3 1 rfl (Nat.le_refl _) h
   cases L with
   | zero=>simp at hL
   | succ L=>
    obtain⟨n,v,q1,q2,q3,rfl,q5⟩:=nr hk L w2 (i:=i+6) (by simp only[List.length_cons,List.length_append,List.length_drop,gN]at hL;omega) h6 hw2;refine⟨n+6,v,by omega,fun e=>by have:=q2 e;omega,fun e=>by have:=q3 e;omega,?_,by rw[show i+(n+6)=i+6+n by omega];exact q5⟩;rw[re (l:=(p.drop i).take (n+6)) (by simp;omega),yC (by omega),j8 (by omega),show n+6-6=n by omega];have e:=kL (v6 p i) (a:=0) (by decide);rw[List.drop_zero]at e;rw[e,List.append_assoc];rfl
theorem qt{p:List UInt8}{k:Nat}(hk:k=2∨k=3):∀(L n:Nat) {i:Nat},n≤L→i+n≤p.length→(k=2→n%6=0)→(k=3→n%6≠0)→∀{v:List Nat},Acc p (6,i+n,0,0) v→Acc p (k,i,0,0) (rG ((p.drop i).take n)++v)
 | L,n,i,hL,hi,h2,h3,v,h=>by
  by_cases h6:6≤n
  ·cases L with
   | zero=>omega
   | succ L=>
    rw[re (by simp;omega),yC h6,j8 h6,List.append_assoc];exact AR hk (by omega) (qt hk L (n-6) (by omega) (by omega) (fun e=>by have:=h2 e;omega) (fun e=>by have:=h3 e;omega) (by rw[show i+6+(n-6)=i+n by omega];exact h))
  ·rw[iC (by simp;omega)]
   rcases hk with rfl|rfl
   ·have h0:n=0:=by have:=h2 rfl;omega
    subst h0;rw[List.take_zero];exact BM h (Fi p i) (fun e=>⟨e,rfl⟩)
   ·have h0:n≠0:=by have:=h3 rfl;omega
    obtain⟨m,rfl⟩:∃m,n=m+1:=⟨n-1,by omega⟩;rw[List.drop_eq_getElem_cons (by omega)];refine⟨(4,i+1,1,0),?_,sI m (Nat.le_refl _) (by omega) (by omega) (by rw[show i+1+m=i+(m+1) by omega];exact h)⟩;simp[bK,show i<p.length by omega,byA,List.getD_eq_getElem?_getD,List.getElem?_eq_getElem (show i<p.length by omega)]
theorem ri{p:List UInt8}{i a:Nat}(ha:1≤a)(hd:a≤dgA p i):∀(n b:Nat),b+n=a/3+1→1≤b→∀{w:List Nat},Acc p (cT i a b) w→∃v,w=(dF p i a).drop b++v∧Acc p (if a=44 then(5,i+a,0,0) else(6,i+a,0,0)) v
 | 0,b,hb,h1,w,h=>by
  unfold cT at h;rw[if_neg (by omega)]at h;exact⟨w,by rw[List.drop_eq_nil_of_le (by rw[eg hd];omega)];rfl,h⟩
 | n+1,b,hb,h1,[],h=>by
  unfold cT at h;rw[if_pos (by omega)]at h;have:a=0:=h.2;omega
 | n+1,b,hb,h1,x::w,h=>by
  unfold cT at h;rw[if_pos (by omega)]at h;obtain⟨t,hm,h⟩:=h;simp only[bK,show 0<a by omega,if_true,List.mem_cons,List.not_mem_nil,or_false,Prod.mk.injEq]at hm;obtain⟨rfl,rfl⟩:=hm;obtain⟨v,rfl,hv⟩:=ri ha hd n (b+1) (by omega) (by omega) h;refine⟨v,?_,hv⟩;rw[List.drop_eq_getElem_cons (i:=b) (by rw[eg hd];omega),List.getD_eq_getElem?_getD,List.getElem?_eq_getElem (by rw[eg hd];omega)];rfl
theorem uB{p:List UInt8}{i a:Nat}(ha:1≤a)(hd:a≤dgA p i){v:List Nat}(h:Acc p (if a=44 then(5,i+a,0,0) else(6,i+a,0,0)) v):∀(n b:Nat),b+n=a/3+1→1≤b→Acc p (cT i a b) ((dF p i a).drop b++v)
 | 0,b,hb,h1=>by
  unfold cT;rw[if_neg (by omega),List.drop_eq_nil_of_le (by rw[eg hd];omega)];exact h
 | n+1,b,hb,h1=>by
  have e:cT i a b=(5,i,a,b):=by unfold cT;rw[if_pos (by omega)]
  rw[e,List.drop_eq_getElem_cons (i:=b) (by rw[eg hd];omega)];refine⟨_,?_,uB ha hd h n (b+1) (by omega) (by omega)⟩;simp only[bK,show 0<a by omega,if_true,List.mem_cons,List.not_mem_nil,or_false,Prod.mk.injEq,and_true];rw[List.getD_eq_getElem?_getD,List.getElem?_eq_getElem (by rw[eg hd];omega)];rfl
theorem ph{p:List UInt8}{i a:Nat}(hd:a≤dgA p i):dF p i a=(dF p i a).getD 0 0::(dF p i a).drop 1:=by
 have:=List.drop_eq_getElem_cons (l:=dF p i a) (i:=0) (by rw[eg hd];omega);rw[List.drop_zero]at this;rw[List.getD_eq_getElem?_getD,List.getElem?_eq_getElem (by rw[eg hd];omega)];exact this
theorem sC{l:List UInt8}(h0:l≠[])(h:l.length≤44):iS l=dw l:=by
 rw[gO h0,List.take_of_length_le h,List.drop_eq_nil_of_le h,eJ,List.append_nil]
theorem rj{p:List UInt8}:∀(L:Nat) (w:List Nat) {i:Nat},w.length≤L→i≤p.length→Acc p (5,i,0,0) w→∃n v,i+n≤p.length∧(∀b ∈ (p.drop i).take n,bg b=true)∧w=iS ((p.drop i).take n)++v∧Acc p (6,i+n,0,0) v
 | L,[],i,hL,hi,h=>⟨0,[],by omega,by simp,by simp[eJ],h.1⟩
 | L,x::w,i,hL,hi,h=>by
  obtain⟨t,hm,h⟩:=h;simp only[bK,Nat.lt_irrefl,if_false,List.mem_append,List.mem_map,List.mem_range]at hm;rcases hm with hm|⟨k,hk,e⟩
  ·exact⟨0,x::w,by omega,by simp,by simp[eJ],⟨t,hm,h⟩⟩
  ·injection e with e1 e2
   subst e1 e2;obtain⟨d1,d2,d3⟩:=ql (show k+1≤dgA p i by omega);have hlen:i+(k+1)≤p.length:=by rw[List.length_take,List.length_drop]at d2;omega
   have hne:(p.drop i).take (k+1)≠[]:=fun e=>by rw[e]at d2;simp at d2
   obtain⟨v,rfl,hv⟩:=ri (by omega) (by omega) ((k+1)/3) 1 (by omega) (Nat.le_refl _) h;have hg:=ph (show k+1≤dgA p i by omega);by_cases e:k+1=44
   ·rw[if_pos e]at hv
    cases L with
    | zero=>simp at hL
    | succ L=>
     obtain⟨n,u,q1,q2,rfl,q4⟩:=rj L v (i:=i+(k+1)) (by simp only[List.length_cons,List.length_append]at hL;omega) hlen hv;have hsplit:(p.drop i).take (k+1+n)=(p.drop i).take (k+1)++(p.drop (i+(k+1))).take n:=by rw[List.take_add,List.drop_drop]
     refine⟨k+1+n,u,by omega,?_,?_,by rw[←Nat.add_assoc];exact q4⟩
     ·intro b hb
      rw[hsplit]at hb;rcases List.mem_append.1 hb with hb|hb
      ·exact d1 b hb
      ·exact q2 b hb
     ·rw[gO (l:=(p.drop i).take (k+1+n)) (by rw[hsplit];simp[hne]),List.take_take,Nat.min_eq_left (by omega),j8 (by omega),←e,show k+1+n-(k+1)=n by omega]
      unfold dF at hg;rw[←List.cons_append,←List.append_assoc];unfold dF;rw[←hg]
   ·rw[if_neg e]at hv
    refine⟨k+1,v,hlen,d1,?_,hv⟩;rw[sC hne (by omega),←List.cons_append,←hg];rfl
theorem uN{p:List UInt8}:∀(L n:Nat) {i:Nat},n≤L→i+n≤p.length→(∀b ∈ (p.drop i).take n,bg b=true)→∀{v:List Nat},Acc p (6,i+n,0,0) v→Acc p (5,i,0,0) (iS ((p.drop i).take n)++v)
 | L,0,i,hL,hi,hd,v,h=>by
  rw[List.take_zero,eJ];exact BM h (G3 p i) (fun e=>⟨e,rfl⟩)
 | L,n+1,i,hL,hi,hd,v,h=>by
  have hstep:∀k,k<44→k≤n→∀{u:List Nat},Acc p (if k+1=44 then(5,i+(k+1),0,0) else(6,i+(k+1),0,0)) u→Acc p (5,i,0,0) (dF p i (k+1)++u):=by
   intro k hk hkn u hu;have hg:k+1≤dgA p i:=za (fun b hb=>hd b (by
    have:((p.drop i).take (n+1)).take (k+1)=(p.drop i).take (k+1):=by rw[List.take_take,Nat.min_eq_left (by omega)]
    rw[←this]at hb;exact List.mem_of_mem_take hb)) (by omega) (by omega)
   rw[ph hg];refine⟨_,?_,uB (by omega) hg hu ((k+1)/3) 1 (by omega) (Nat.le_refl _)⟩;simp only[bK,Nat.lt_irrefl,if_false,List.mem_append,List.mem_map,List.mem_range];exact .inr ⟨k,by omega,rfl⟩
  have hne:(p.drop i).take (n+1)≠[]:=fun e=>by have:=congrArg List.length e;simp at this;omega
  by_cases h44:n+1<44
  ·rw[sC hne (by simp;omega)]
   exact hstep n (by omega) (Nat.le_refl _) (by rw[if_neg (by omega)];exact h)
  ·cases L with
   | zero=>omega
   | succ L=>
    rw[gO hne,List.take_take,Nat.min_eq_left (by omega),j8 (by omega),List.append_assoc];refine hstep 43 (by decide) (by omega) ?_;rw[if_pos rfl];refine uN L (n+1-44) (by omega) (by omega) (fun b hb=>hd b ?_) (by rw[show i+(43+1)+(n+1-44)=i+(n+1) by omega];exact h);rw[←j8 (by omega)]at hb;exact List.mem_of_mem_drop hb
def ef(i s:Nat):Thr:=if s<8 then(0,i,3*(c8 s).1+(c8 s).2,0) else(6,i,0,0)
def RB(p:List UInt8)(a:Nat)(R:Nat→Nat→List Nat):Prop:=∀j s,a<j→j≤p.length→s<9→BestIn (Acc p (ef j s)) (R j s)
theorem Bu{s:Nat}(h:s<4):c8 s=(s,0):=by unfold c8;rw[if_pos h]
theorem tR{p:List UInt8}:∀(k:Nat) {i x:Nat},i+k=p.length→x<12→∃w,Acc p (0,i,x,0) w∧w.length≤2*k
 | 0,i,x,h,hx=>⟨[],h,by simp⟩
 | k+1,i,x,h,hx=>by
  obtain⟨w,h1,h2⟩:=tR (p:=p) k (i:=i+1) (x:=x/3*3) (by omega) (by omega);refine⟨913::byA p i::w,⟨(1,i,x/3*3,0),?_,⟨(0,i+1,x/3*3,0),by simp[bK],h1⟩⟩,by simp;omega⟩;simp only[bK,List.mem_append];exact .inr (.inl (by rw[if_pos (by omega)];simp))
theorem zZ{p:List UInt8}{i s:Nat}(hi:i≤p.length)(hs:s<9):VT p (ef i s):=by
 unfold ef;split
 ·have:=fO (s:=s) (by omega)
  exact⟨hi,by omega,rfl⟩
 ·exact⟨hi,rfl,rfl⟩
theorem vT{p:List UInt8}{i s:Nat}(hi:i≤p.length)(hs:s<9):∃w,Acc p (ef i s) w∧w.length≤2*(p.length-i)+1:=by
 unfold ef;split
 ·have:=fO (s:=s) (by omega)
  obtain⟨w,h1,h2⟩:=tR (p:=p) (p.length-i) (i:=i) (x:=3*(c8 s).1+(c8 s).2) (by omega) (by omega);exact⟨w,h1,by omega⟩
 ·obtain⟨w,h1,h2⟩:=tR (p:=p) (p.length-i) (i:=i) (x:=0) (by omega) (by omega)
  exact⟨900::w,⟨_,by simp[bK,dE],h1⟩,by simp;omega⟩
theorem mj{p:List UInt8}{T:Tab}(hl:∀i,i≤p.length→LowA p T i):∀{w:List Nat} {t:Thr},VT p t→Acc p t w→∀x ∈ w,x≤928
 | [],_,_,_,x,hx=>by simp at hx
 | y::w,t,hv,h,x,hx=>by
  obtain⟨t',hm,h⟩:=h;rcases List.mem_cons.1 hx with rfl|hx
  ·exact ui hv hm
  ·exact mj hl (mP hl hv hm).1 h x hx
theorem RB.ok{p:List UInt8}{a:Nat}{R:Nat→Nat→List Nat}{T:Tab}(hl:∀i,i≤p.length→LowA p T i)(h:RB p a R)(hp:p.length≤4096):OkR p.length a R:=by
 intro j s h1 h2 h3;have hb:=h j s h1 h2 h3;obtain⟨w,q1,q2⟩:=vT h2 h3;refine⟨?_,mj hl (zZ h2 h3) hb.1⟩;rcases hb.2 w q1 with q|⟨q,-⟩<;>omega
end Go.Proofs.YtgpolmomghejoaaDoor
