/- Lemmas. -/
import Derived.Test.YtgpolmomghejoaaDoorE19
set_option linter.unusedVariables false
set_option linter.unusedSimpArgs false
set_option linter.unusedSectionVars false
namespace Go.Proofs.YtgpolmomghejoaaDoor
open Go.Abs
set_option maxRecDepth 20000
def c8(s:Nat):Nat×Nat:=if s<4 then(s,0) else if s<7 then(s-4,1) else(1,2)
def nO(x:Nat×Nat):Nat:=if x.2=1 then x.1+4 else if x.2=2 then 7 else x.1
set_option linter.defProp false in
def cH:=And.intro @Int.cast_ofNat_Int (And.intro @ite_self.{1} (And.intro @fB (And.intro @kD @dO)))
theorem fW{P:Prop}(h:P:=by simp(disch:=first|omega|(simp only[aD];omega))only[evB,cH,Nat.reduceAdd,Nat.reduceMul,Nat.reduceBEq,Int.reduceToNat,Int.reduceEq,Int.reduceNe, *];rfl):P:=h
theorem aV{cp:FuncId→Option CF}{lo:Nat}{l:List (Nat×E)}{chk:List E}{Q:aX}{S:List Value}{H:Heap}{vs:List (Nat×Value)}{S':List Value}(k:Q .normal S' H)(h:evSets S H l=some vs:=by exact fW)(hc:evChk S H chk=true:=by simp(disch:=first|omega|(simp only[aD];omega))only[evB,cH,Nat.reduceAdd,Nat.reduceMul,Nat.reduceBEq,Int.reduceToNat,Int.reduceEq,Int.reduceNe, *])(hS:setAll S vs=S':=by exact fW):wpS cp lo (.sets l chk) Q S H:=eF h hc hS k
theorem fX{cp:FuncId→Option CF}{lo:Nat}{l:List (Nat×E)}{chk:List E}{Q:aX}{S:List Value}{H:Heap}{vs:List (Nat×Value)}{dst:Option Nat}{o:HOp}{a:E}{xs:List Value}(k:wpH cp lo o xs H fun v H'=>Q .normal (setD (setAll S vs) dst v) H')(h:evSets S H l=some vs:=by exact fW)(hc:evChk S H chk=true:=by simp(disch:=first|omega|(simp only[aD];omega))only[evB,cH,Nat.reduceAdd,Nat.reduceMul,Nat.reduceBEq,Int.reduceToNat,Int.reduceEq,Int.reduceNe, *])(ha:ev S H a=some xs:=by exact fW):wpS cp lo (.hv l chk [] dst o a) Q S H:=gG h hc ha k
theorem aU{cp:FuncId→Option CF}{lo:Nat}{l:List (Nat×E)}{chk:List E}{Q:aX}{S:List Value}{H:Heap}{vs:List (Nat×Value)}{dst:Option Nat}{o:HOp}{a:E}{xs:List Value}{S':List Value}{H':Heap}{v:Value}(hcall:o.isCall=false)(k:Q .normal S' H')(h:evSets S H l=some vs:=by exact fW)(hc:evChk S H chk=true:=by simp(disch:=first|omega|(simp only[aD];omega))only[evB,cH,Nat.reduceAdd,Nat.reduceMul,Nat.reduceBEq,Int.reduceToNat,Int.reduceEq,Int.reduceNe, *])(ha:ev S H a=some xs:=by exact fW)(ho:aR lo o xs H=some (v,H'):=by exact fW)(hS:setD (setAll S vs) dst v=S':=by exact fW):wpS cp lo (.hv l chk [] dst o a) Q S H:=eV hcall h hc ha ho hS k
theorem fU{cp:FuncId→Option CF}{lo:Nat}{c:E}{a b:Stm}{Q:aX}{S:List Value}{H:Heap}{t:Bool}(k1:t=true→wpS cp lo a Q S H)(k2:t=false→wpS cp lo b Q S H)(h:ev1 S H c=some (.bool t):=by exact fW):wpS cp lo (.cond c a b) Q S H:=aF h k1 k2
theorem fQ{cf:CF}{R:Value→Heap→Prop}{S:List Value}{H:Heap}{vs:List Value}(k:R (aP vs) H)(h:evList S H cf.res=some vs:=by exact fW):aS cf R .ret S H:=eM h k
theorem uG{lo:Nat}{H:Heap}{s:Nat}(hs:s<9):Ev cp lo 56 [.int .i64 (s:Nat)] H (fun r H'=>H'=H∧r=.tuple #[.int .i64 ((c8 s).1:Nat),.int .i64 ((c8 s).2:Nat)]):=by
 unfold c8;refine LK ?_;unfold Cq xJ;simp only[kB,aA];repeat' ((first|refine aV ?_|refine aU rfl ?_);(try simp only[aA]))
 refine fU (fun h=>?_) (fun h=>?_)
 ·have e:s<4:=by simp only[decide_eq_true_eq]at h;omega
  clear h;rw[if_pos e];(try simp only[aA]);repeat' ((first|refine aV ?_|refine aU rfl ?_);(try simp only[aA]))
  refine fQ ?_;exact⟨rfl,rfl⟩
 have e:¬ (s<4):=by simp only[decide_eq_false_iff_not]at h;omega
 clear h;rw[if_neg e];(try simp only[aA]);refine fU (fun h=>?_) (fun h=>?_)
 ·have e2:s<7:=by simp only[decide_eq_true_eq]at h;omega
  clear h;rw[if_pos e2];obtain⟨t,rfl⟩:∃t,s=t+4:=⟨s-4,by omega⟩;have et:((t+4:Nat):Int)-4=(t:Nat):=by omega
  rw[Nat.add_sub_cancel];(try simp only[aA]);repeat' ((first|refine aV ?_|refine aU rfl ?_);(try simp only[aA]))
  refine fQ ?_;exact⟨rfl,rfl⟩
 have e2:¬ (s<7):=by simp only[decide_eq_false_iff_not]at h;omega
 clear h;rw[if_neg e2];(try simp only[aA]);repeat' ((first|refine aV ?_|refine aU rfl ?_);(try simp only[aA]))
 refine fQ ?_;exact⟨rfl,rfl⟩
theorem zp{lo:Nat}{H:Heap}{x:Nat×Nat}(h1:x.1<4)(h2:x.2<3):Ev cp lo 76 [.int .i64 (x.1:Nat),.int .i64 (x.2:Nat)] H (fun r H'=>H'=H∧r=.int .i64 (nO x:Nat)):=by
 unfold nO;obtain⟨a,b⟩:=x;simp only at h1 h2 ⊢;refine JZ ?_;unfold CU yR;simp only[kB,aA];repeat' ((first|refine aV ?_|refine aU rfl ?_);(try simp only[aA]))
 refine fU (fun h=>?_) (fun h=>?_)
 ·have e:b=1:=by simp only[decide_eq_true_eq]at h;omega
  clear h;rw[if_pos e];(try simp only[aA]);repeat' ((first|refine aV ?_|refine aU rfl ?_);(try simp only[aA]))
  refine fQ ?_;exact⟨rfl,by first|rfl|(simp only[Int.natCast_add];rfl)⟩
 have e:¬ (b=1):=by simp only[decide_eq_false_iff_not]at h;omega
 clear h;rw[if_neg e];(try simp only[aA]);refine fU (fun h=>?_) (fun h=>?_)
 ·have e2:b=2:=by simp only[decide_eq_true_eq]at h;omega
  clear h;rw[if_pos e2];(try simp only[aA]);repeat' ((first|refine aV ?_|refine aU rfl ?_);(try simp only[aA]))
  refine fQ ?_;exact⟨rfl,rfl⟩
 have e2:¬ (b=2):=by simp only[decide_eq_false_iff_not]at h;omega
 clear h;rw[if_neg e2];(try simp only[aA]);repeat' ((first|refine aV ?_|refine aU rfl ?_);(try simp only[aA]))
 refine fQ ?_;exact⟨rfl,rfl⟩
def prS(l:List UInt8)(s c:Nat):Nat→Option ((Nat×Nat)×Nat)
 | 0=>some (c8 s,0)
 | i+1=>match prS l s c i with
  | none=>none
  | some (x,n)=>match tkS l x (if i=1 then c%30 else c/30) n with
   | none=>none
   | some (y,m)=>some (y,n+m)
def eE(l:List UInt8)(s c:Nat):Option (Nat×Nat):=(prS l s c 2).map fun x=>(x.2,nO x.1)
def oH(l:List UInt8)(s c:Nat):Value:=match eE l s c with
 | some (n,t)=>.tuple #[.int .i64 (n:Nat),.int .i64 (t:Nat),.bool true]
 | none=>.tuple #[.int .i64 0,.int .i64 0,.bool false]
theorem fO{s:Nat}(hs:s<8):(c8 s).1<4∧(c8 s).2<3:=by unfold c8;split<;>(try split)<;>simp<;>omega
theorem qa{l:List UInt8}{s c:Nat}(hs:s<8)(hc:c<900):∀{i:Nat} {x:Nat×Nat} {n:Nat},prS l s c i=some (x,n)→x.1<4∧x.2<3∧n≤i∧n≤l.length
 | 0,x,n,h=>by
  simp only[prS,Option.some.injEq,Prod.mk.injEq]at h;obtain⟨rfl,rfl⟩:=h;exact⟨(fO hs).1,(fO hs).2,Nat.le_refl _,Nat.zero_le _⟩
 | i+1,x,n,h=>by
  simp only[prS]at h;split at h
  ·cases h
  ·rename_i y m e
   obtain⟨a1,a2,a3,a4⟩:=qa hs hc e;split at h
   ·cases h
   ·rename_i z k e2
    simp only[Option.some.injEq,Prod.mk.injEq]at h;obtain⟨rfl,rfl⟩:=h;obtain⟨b1,b2,b3,b4,-⟩:=oi e2 a1 a2 (by split<;>omega);exact⟨b1,b2,by omega,by omega⟩
theorem zw{lo:Nat}{H:Heap}{v:Value}{l:List UInt8}{s c:Nat}(hv:Sl bZ H v l)(hs:s<8)(hc:c<900) :
  Ev cp lo 54 [v,.int .i64 (s:Nat),.int .i64 (c:Nat)] H (fun r H'=>H'=H∧r=oH l s c):=by
 have hv0:=hv;obtain⟨ad,c0,rfl⟩:=hv.len;have ec1:((c:Nat):Int).tdiv 30=((c/30:Nat):Int):=rfl;have ec2:((c:Nat):Int).tmod 30=((c%30:Nat):Int):=rfl;refine Hq ?_;unfold D7 zW;simp only[kB,aA];repeat' ((first|refine aV ?_|refine aU rfl ?_);(try simp only[aA]))
 refine fX ?_;refine aC (uG (by omega)) ?_;rintro r K ⟨rfl,rfl⟩;(try simp only[aA]);repeat' ((first|refine aV ?_|refine aU rfl ?_);(try simp only[aA]))
 refine ai (fun i S H'=>K=H'∧∃(x:Nat×Nat) (n:Nat),(prS l s c i=some (x,n)∨False)∧∃(z:Nat→Value),S=[.slice ad l.length c0,.int .i64 (s:Nat),.int .i64 (c:Nat),z 3,z 4,z 5,.int .i64 (x.1:Nat),.int .i64 (x.2:Nat),.int .i64 (n:Nat),.int .i64 (i:Nat),z 10,z 11,z 12,z 13,z 14,z 15,z 16,z 17,z 18]) 2 ?_ ?_ ?_ ?_
 ·exact⟨rfl,c8 s,0,.inl rfl,aE rfl⟩
 ·rintro i S H' hi ⟨rfl,x,n,-,z,rfl⟩
  exact⟨_,fW,by simp;omega⟩
 ·rintro i S H' hi ⟨rfl,x,n,hp,z,rfl⟩
  have hp:=hp.resolve_right id;obtain⟨x1,x2,x3,x4⟩:=qa hs hc hp;obtain⟨u,hu⟩:∃u,(if i=1 then c%30 else c/30)=u:=⟨_,rfl⟩;have hu30:u<30:=by rw[←hu];split<;>omega
  have hn:prS l s c (i+1)=(match tkS l x u n with|none=>none|some (y,m)=>some (y,n+m)):=by simp only[prS,hp,hu]
  have hfail:tkS l x u n=none→oH l s c=.tuple #[.int .i64 0,.int .i64 0,.bool false]:=by
   intro e;have h2:prS l s c 2=none:=by
    rw[e]at hn;have:i=0∨i=1:=by omega
    rcases this with rfl|rfl
    ·simp only[prS]at hn ⊢;rw[hn]
    ·exact hn
   unfold oH eE;rw[h2];rfl
  unfold tkS at hn hfail;clear hp;replace hn:False∨_:=.inr hn;replace hfail:False∨_:=.inr hfail;replace hu:False∨_:=.inr hu;(try simp only[aA]);repeat' ((first|refine aV ?_|refine aU rfl ?_);(try simp only[aA]))
  refine dq (fun S H'=>K=H'∧∃(z:Nat→Value),S=[.slice ad l.length c0,.int .i64 (s:Nat),.int .i64 (c:Nat),z 3,z 4,z 5,.int .i64 (x.1:Nat),.int .i64 (x.2:Nat),.int .i64 (n:Nat),.int .i64 (i:Nat),.int .i64 (u:Nat),z 11,z 12,z 13,z 14,z 15,z 16,z 17,z 18]) ?_ ?_
  ·have hu:=hu.resolve_left id
   refine fU (fun h=>?_) (fun h=>?_)
   ·have e:i=1:=by simp only[decide_eq_true_eq]at h;omega
    clear h;rw[if_pos e]at hu;clear e;(try simp only[aA]);(repeat' ((first|refine aV ?_|refine aU rfl ?_);(try simp only[aA])));exact⟨by trivial,aE (by rw[←hu];rfl)⟩
   ·have e:¬ (i=1):=by simp only[decide_eq_false_iff_not]at h;omega
    clear h;rw[if_neg e]at hu;clear e;(try simp only[aA]);exact⟨by trivial,aE (by rw[←hu];rfl)⟩
  rintro S H' ⟨rfl,z,rfl⟩;clear hu ec1 ec2;(try simp only[aA]);refine fX ?_;refine aC (EO x1 x2 hu30) ?_;rintro r K ⟨rfl,rfl⟩;unfold wq;generalize hst:stp x.1 x.2 u=st at *;replace hst:False∨_:=.inr hst;cases st with
  | none=>
   have hfail:=hfail.resolve_left id rfl;rw[hfail];clear hn;(try simp only[aA]);(repeat' ((first|refine aV ?_|refine aU rfl ?_);(try simp only[aA])));refine aF (t:=true) (by simp(disch:=first|omega|(simp only[aD];omega))only[evB,cH,Nat.reduceAdd,Nat.reduceMul,Nat.reduceBEq,Int.reduceToNat,Int.reduceEq,Int.reduceNe, *];try rfl) (fun h=>?_) (fun h=>by cases h);clear h;(try simp only[aA]);(repeat' ((first|refine aV ?_|refine aU rfl ?_);(try simp only[aA])));refine fQ ?_;exact⟨rfl,rfl⟩
  | some y=>
   obtain⟨ch,a,b⟩:=y;have hn:=hn.resolve_left id;have hfail:=hfail.resolve_left id;simp only at hn hfail;by_cases h0:ch<0
   ·rw[if_pos h0]at hn
    clear hfail;replace hn:False∨_:=.inr hn;(try simp only[aA]);(repeat' ((first|refine aV ?_|refine aU rfl ?_);(try simp only[aA])));refine aF (t:=false) (by simp(disch:=first|omega|(simp only[aD];omega))only[evB,cH,Nat.reduceAdd,Nat.reduceMul,Nat.reduceBEq,Int.reduceToNat,Int.reduceEq,Int.reduceNe, *];first|rfl|(simp only[decide_eq_false (show ¬ ((0:Int)≤ch) by omega)];rfl)) (fun h=>by cases h) (fun h=>?_);clear h;(try simp only[aA]);refine fU (fun h=>?_) (fun h=>?_)
    ·exfalso;simp only[decide_eq_true_eq]at h;omega
    clear h;(try simp only[aA]);(repeat' ((first|refine aV ?_|refine aU rfl ?_);(try simp only[aA])));exact⟨by trivial,(a,b),n,.inl (hn.resolve_left id),aE (by first|rfl|(simp only[Int.natCast_add,Int.natCast_one];rfl)|simp only[Int.natCast_add,Int.natCast_one])⟩
   ·rw[if_neg h0]at hn hfail
    by_cases hlt:n<l.length
    ·obtain⟨b1,o,sp,cap,xs,e,hg,hx,-⟩:=hv0.els 0 (by omega)
     cases e;have hxa:=hx n hlt;have hxb:xs[o+n]?=some (.int .u8 ((l.getD n 0).toNat:Int)):=hxa;replace hx:False∨_:=.inr hx;clear hxa;have ew:IntKind.i64.wrap ((l.getD n 0).toNat:Int)=((l.getD n 0).toNat:Int):=wrap_i64 (by omega) (by have:=(l.getD n 0).toNat_lt;omega);generalize l.getD n 0=q at *;by_cases hq:(q.toNat:Int)=ch
     ·rw[if_pos ⟨hlt,hq⟩]at hn
      rw[hq]at ew;clear hfail;replace hn:False∨_:=.inr hn;(try simp only[aA]);(repeat' ((first|refine aV ?_|refine aU rfl ?_);(try simp only[aA])));refine fU (fun h=>?_) (fun h=>?_)
      ·exfalso
       simp only[Bool.not_true,Bool.false_or,Bool.or_eq_true,Bool.and_eq_true,decide_eq_true_eq]at h;omega
      clear h;(try simp only[aA]);refine fU (fun h=>?_) (fun h=>?_)
      ·clear h
       (try simp only[aA]);(repeat' ((first|refine aV ?_|refine aU rfl ?_);(try simp only[aA])));exact⟨by trivial,(a,b),n+1,.inl (hn.resolve_left id),aE (by first|rfl|(simp only[Int.natCast_add,Int.natCast_one];rfl)|simp only[Int.natCast_add,Int.natCast_one])⟩
      ·exfalso;simp only[decide_eq_false_iff_not]at h;omega
     ·rw[if_neg (fun e=>hq e.2)]at hfail
      have hfail:=hfail rfl;rw[hfail];clear hn;(try simp only[aA]);(repeat' ((first|refine aV ?_|refine aU rfl ?_);(try simp only[aA])));refine fU (fun h=>?_) (fun h=>?_)
      ·clear h
       (try simp only[aA]);(repeat' ((first|refine aV ?_|refine aU rfl ?_);(try simp only[aA])));refine fQ ?_;exact⟨rfl,rfl⟩
      ·exfalso
       simp only[Bool.not_true,Bool.false_or,Bool.or_eq_false_iff,Bool.and_eq_false_iff,decide_eq_false_iff_not]at h;omega
    ·rw[if_neg (fun e=>hlt e.1)]at hfail
     have hfail:=hfail rfl;rw[hfail];have hnl:n=l.length:=by omega
     subst hnl;clear hn;(try simp only[aA]);(repeat' ((first|refine aV ?_|refine aU rfl ?_);(try simp only[aA])));refine aF (t:=true) (by simp(disch:=first|omega|(simp only[aD];omega))only[evB,cH,Nat.reduceAdd,Nat.reduceMul,Nat.reduceBEq,Int.reduceToNat,Int.reduceEq,Int.reduceNe, *];simp only[decide_eq_true (show(0:Int)≤ch by omega)];rfl) (fun h=>?_) (fun h=>by cases h);clear h;(try simp only[aA]);(repeat' ((first|refine aV ?_|refine aU rfl ?_);(try simp only[aA])));refine fQ ?_;exact⟨rfl,rfl⟩
 rintro S H' ⟨rfl,x,n,hp,z,rfl⟩;have hp:=hp.resolve_right id;obtain⟨x1,x2,x3,x4⟩:=qa hs hc hp;have hr:oH l s c=.tuple #[.int .i64 (n:Nat),.int .i64 (nO x:Nat),.bool true]:=by unfold oH eE;rw[hp];rfl
 rw[hr];clear hr hp ec1 ec2;(try simp only[aA]);repeat' ((first|refine aV ?_|refine aU rfl ?_);(try simp only[aA]))
 refine fX ?_;refine aC (zp x1 x2) ?_;rintro r K2 ⟨rfl,rfl⟩;(try simp only[aA]);repeat' ((first|refine aV ?_|refine aU rfl ?_);(try simp only[aA]))
 refine fQ ?_;exact⟨rfl,rfl⟩
theorem jD{lo:Nat}{H:Heap}{v w:Value}{a b:List Nat}(hlo:lo≤H.length)(ha:SlN H v a)(hb:SlN H w b)(hsz:a.length+b.length≤1000000) :
  Ev cp lo 40 [v,w] H (fun r H'=>Ext H H'∧∃k,Grow H.length H' r k ((a++b).map ag)):=by
 have ha0:=ha;have hb0:=hb;obtain⟨aa,ca,rfl⟩:=ha.len;obtain⟨ab,cb,rfl⟩:=hb.len;refine IW ?_;unfold ES yh;simp only[kB,aA];repeat' ((first|refine aV ?_|refine aU rfl ?_);(try simp only[aA]))
 refine fX ?_;refine iH (enc:=ag) (fun _=>rfl) (A:=H.length) (b:=H.length) (l:=[]) (m:=a) hlo (Nat.le_refl _) (Nat.le_refl _) (Grow.nil hlo) ha0 (by simp;omega) ?_;intro v1 H1 b1 hb1 ho1 hk1;have hx1:=hk1.ext (Ext.refl H) (Nat.le_refl _);have hl1:=hx1.1;rw[List.nil_append]at ho1;(try simp only[aA]);repeat' ((first|refine aV ?_|refine aU rfl ?_);(try simp only[aA]))
 refine fX ?_;refine iH (enc:=ag) (fun _=>rfl) (A:=H.length) (b:=b1) (l:=a) (m:=b) (by omega) hb1 (by omega) ho1 (hb0.mono hx1) (by omega) ?_;intro v2 H2 b2 hb2 ho2 hk2;have hx2:=hk2.ext hx1 hb1;clear ho1 ha0 hb0;(try simp only[aA]);repeat' ((first|refine aV ?_|refine aU rfl ?_);(try simp only[aA]))
 refine fQ ?_;exact⟨hx2,b2,hb2,ho2.2⟩
def slt(a b:List Nat):Prop:=a.length<b.length∨a.length=b.length∧ltP a b
def sle(a b:List Nat):Prop:=a.length<b.length∨a.length=b.length∧(b=a∨ltP a b)
theorem pj{a b:List Nat}{i:Nat}(h:a.take i=b.take i)(ha:i<a.length)(hb:i<b.length)(hlt:a.getD i 0<b.getD i 0):ltP a b:=by
 have e1:a=a.take i++a.getD i 0::a.drop (i+1):=by
  rw[List.getD_eq_getElem?_getD,List.getElem?_eq_getElem ha,Option.getD_some,List.getElem_cons_drop];exact(List.take_append_drop i a).symm
 have e2:b=b.take i++b.getD i 0::b.drop (i+1):=by
  rw[List.getD_eq_getElem?_getD,List.getElem?_eq_getElem hb,Option.getD_some,List.getElem_cons_drop];exact(List.take_append_drop i b).symm
 rw[e1,e2,←h];exact sg hlt _ _ _
theorem o9{lo:Nat}{H:Heap}{v w:Value}{a b:List Nat}(ha:SlN H v a)(hb:SlN H w b)(hsz:a.length≤1000000)(hsz2:b.length≤1000000)(ha9:∀x ∈ a,x≤1000)(hb9:∀x ∈ b,x≤1000) :
  Ev cp lo 41 [v,w] H (fun r H'=>H'=H∧∃t,r=.bool t∧(t=true→slt a b)∧(t=false→sle b a)):=by
 have ha0:=ha;have hb0:=hb;obtain⟨aa,ca,rfl⟩:=ha.len;obtain⟨ab,cb,rfl⟩:=hb.len;replace ha9:False∨_:=.inr ha9;replace hb9:False∨_:=.inr hb9;refine L5 ?_;unfold Cm zU;simp only[kB,aA];repeat' ((first|refine aV ?_|refine aU rfl ?_);(try simp only[aA]))
 refine fU (fun h=>?_) (fun h=>?_)
 ·have hne:a.length≠b.length:=by simp only[decide_eq_true_eq]at h;omega
  clear h;(try simp only[aA]);repeat' ((first|refine aV ?_|refine aU rfl ?_);(try simp only[aA]))
  refine fQ ?_;refine⟨rfl,_,rfl,fun h=>.inl ?_,fun h=>.inl ?_⟩
  ·simp only[decide_eq_true_eq]at h;omega
  ·simp only[decide_eq_false_iff_not]at h;omega
 have hle:a.length≤b.length∧b.length≤a.length:=by simp only[decide_eq_false_iff_not]at h;omega
 clear h;have hle1:=hle.1;have hle2:=hle.2;clear hle;(try simp only[aA]);repeat' ((first|refine aV ?_|refine aU rfl ?_);(try simp only[aA]))
 refine ai (fun i S H'=>H=H'∧(a.take i=b.take i∨False)∧∃(z:Nat→Value),S=[.slice aa a.length ca,.slice ab b.length cb,z 2,.int .i64 (i:Nat)]) a.length ?_ ?_ ?_ ?_
 ·exact⟨rfl,.inl rfl,aE rfl⟩
 ·rintro i S H' hi ⟨rfl,-,z,rfl⟩
  exact⟨_,fW,by simp⟩
 ·rintro i S H' hi ⟨rfl,hp,z,rfl⟩
  obtain⟨b1,o,sp,cap,xs,e,hg,hx⟩:=l7 ha0 hi;cases e;obtain⟨b2,o2,sp2,cap2,xs2,e,hg2,hx2⟩:=l7 hb0 (i:=i) (by omega);cases e;have hx3:xs[o+i]?=some (.int .i64 ((a.getD i 0:Nat):Int)):=hx;have hx4:xs2[o2+i]?=some (.int .i64 ((b.getD i 0:Nat):Int)):=hx2;have hax:a.getD i 0≤1000:=ha9.resolve_left id _ (by rw[List.getD_eq_getElem?_getD,List.getElem?_eq_getElem hi];exact List.getElem_mem _);have hbx:b.getD i 0≤1000:=hb9.resolve_left id _ (by rw[List.getD_eq_getElem?_getD,List.getElem?_eq_getElem (show i<b.length by omega)];exact List.getElem_mem _);have hpi:=fun e=>pj (a:=a) (b:=b) (hp.resolve_right id) hi (by omega) e;have hpj:=fun e=>pj (a:=b) (b:=a) (hp.resolve_right id).symm (by omega) hi e;have hsn:a.getD i 0=b.getD i 0→a.take (i+1)=b.take (i+1):=by
   intro e;rw[List.take_add_one,List.take_add_one,hp.resolve_right id,List.getElem?_eq_getElem hi,List.getElem?_eq_getElem (show i<b.length by omega)];rw[List.getD_eq_getElem?_getD,List.getElem?_eq_getElem hi,List.getD_eq_getElem?_getD,List.getElem?_eq_getElem (show i<b.length by omega)]at e;simp only[Option.getD_some]at e;rw[e]
  generalize a.getD i 0=x at *;generalize b.getD i 0=y at *;clear hx hx2 hp;replace hpi:False∨_:=.inr hpi;replace hpj:False∨_:=.inr hpj;replace hsn:False∨_:=.inr hsn;(try simp only[aA]);refine fU (fun h=>?_) (fun h=>?_)
  ·have hne:x≠y:=by simp only[decide_eq_true_eq]at h;omega
   clear h;(try simp only[aA]);(repeat' ((first|refine aV ?_|refine aU rfl ?_);(try simp only[aA])));refine fQ ?_;refine⟨rfl,_,rfl,fun h=>.inr ⟨by omega,hpi.resolve_left id ?_⟩,fun h=>.inr ⟨by omega,.inr (hpj.resolve_left id ?_)⟩⟩
   ·simp only[decide_eq_true_eq]at h;omega
   ·simp only[decide_eq_false_iff_not]at h;omega
  ·have heq:x=y:=by simp only[decide_eq_false_iff_not]at h;omega
   clear h;have hs:=hsn.resolve_left id heq;clear hsn hpi hpj;subst heq;replace hs:False∨_:=.inr hs;(try simp only[aA]);(repeat' ((first|refine aV ?_|refine aU rfl ?_);(try simp only[aA])));exact⟨by trivial,.inl (hs.resolve_left id),aE (by first|rfl|(simp only[Int.natCast_add,Int.natCast_one];rfl)|simp only[Int.natCast_add,Int.natCast_one])⟩
 rintro S H' ⟨rfl,hp,z,rfl⟩;have hp:=hp.resolve_right id;rw[List.take_length,List.take_of_length_le hle2]at hp;subst hp;(try simp only[aA]);repeat' ((first|refine aV ?_|refine aU rfl ?_);(try simp only[aA]))
 refine fQ ?_;exact⟨rfl,false,rfl,(fun h=>by cases h),fun h=>.inr ⟨rfl,.inl rfl⟩⟩
def jT(N:Nat):List Nat:=(List.range 5).map fun k=>N/900^(4-k)%900
def jI(l:List UInt8):Nat→List Nat
 | 0=>[]
 | g+1=>jI l g++jT (v6 l (6*g))
def kl(l:List UInt8):List Nat:=(if l.length%6=0 then 924 else 901)::(jI l (l.length/6)++(l.drop (6*(l.length/6))).map UInt8.toNat)
theorem gN(N:Nat):(jT N).length=5:=by simp[jT]
theorem o4(l:List UInt8)(g:Nat):(jI l g).length=5*g:=by
 induction g with
 | zero=>rfl
 | succ g ih=>simp only[jI,List.length_append,ih,gN];omega
theorem oT(l:List UInt8):(kl l).length≤1+l.length:=by
 simp only[kl,List.length_cons,List.length_append,o4,List.length_map,List.length_drop];omega
theorem Gs(l:List UInt8)(i:Nat):v6 l i<281474976710656:=by
 unfold v6;have h:∀d ∈ ((l.drop i).take 6).map UInt8.toNat,d<256:=by
  intro d hd;obtain⟨b,-,rfl⟩:=List.mem_map.1 hd;exact b.toNat_lt
 have h2:=fY h _ (Nat.le_refl _);rw[List.take_length]at h2;refine Nat.lt_of_lt_of_le h2 ?_;have:(((l.drop i).take 6).map UInt8.toNat).length≤6:=by simp;omega
 calc 256^(((l.drop i).take 6).map UInt8.toNat).length≤256^6:=Nat.pow_le_pow_right (by decide) this
  _≤281474976710656:=by decide
theorem BS{lo:Nat}{H:Heap}{v:Value}{l:List UInt8}(hlo:lo≤H.length)(hv:Sl bZ H v l)(hl:l.length≤4096) :
  Ev cp lo 55 [v] H (fun r H'=>Ext H H'∧∃k,Grow H.length H' r k ((kl l).map ag)):=by
 have hv0:=hv;obtain⟨ad,c0,rfl⟩:=hv.len;have etm:((l.length:Nat):Int).tmod 6=((l.length%6:Nat):Int):=rfl;refine Kk ?_;unfold EA yf;simp only[kB,aA];repeat' ((first|refine aV ?_|refine aU rfl ?_);(try simp only[aA]))
 have hxa:Ext H (H++[some [ag 901]]):=Ext.push _ _;have hga:Heap.get (H++[some [ag 901]]) H.length=some [ag 901]:=aQ _ _;refine dq (fun S H'=>Ext H H'∧∃b0,H.length≤b0∧H'.get b0=some [ag (if l.length%6=0 then 924 else 901)]∧∃(z:Nat→Value),S=[.slice ad l.length c0,z 1,.slice (some ⟨b0,0,none⟩) 1 1,z 3,z 4,z 5,z 6,z 7,z 8,z 9,z 10,z 11,z 12,z 13,z 14,z 15]) ?_ ?_
 ·refine fU (fun h=>?_) (fun h=>?_)
  ·have e:l.length%6=0:=by simp only[decide_eq_true_eq]at h;omega
   clear h;rw[if_pos e];(try simp only[aA]);(repeat' ((first|refine aV ?_|refine aU rfl ?_);(try simp only[aA])));exact⟨Ext.app _ _,H.length+1,by omega,by rw[dH];rfl,aE rfl⟩
  ·have e:¬ (l.length%6=0):=by simp only[decide_eq_false_iff_not]at h;omega
   clear h;rw[if_neg e];(try simp only[aA]);exact⟨hxa,H.length,Nat.le_refl _,hga,aE rfl⟩
 clear hxa hga etm;rintro S H1 ⟨hx1,b0,hb0,hg0,z,rfl⟩;have hS6:kl l=(if l.length%6=0 then 924 else 901)::(jI l (l.length/6)++(l.drop (6*(l.length/6))).map UInt8.toNat):=rfl;generalize (if l.length%6=0 then 924 else 901)=cmd at *;have hG1:Grow lo H1 (.slice (some ⟨b0,0,none⟩) 1 1) b0 (([cmd]).map ag):=Grow.lit (by omega) hg0 rfl Nat.one_pos;replace hS6:False∨_:=.inr hS6;clear hg0;have hl1:=hx1.1;(try simp only[aA]);repeat' ((first|refine aV ?_|refine aU rfl ?_);(try simp only[aA]))
 refine ai (fun j S H'=>Ext H H'∧∃(w:Value) (b:Nat),H.length≤b∧Grow lo H' w b ((cmd::jI l j).map ag)∧∃(z:Nat→Value),S=[.slice ad l.length c0,z 1,w,.int .i64 ((6*j:Nat):Int),z 4,z 5,z 6,z 7,z 8,z 9,z 10,z 11,z 12,z 13,z 14,z 15]) (l.length/6) ?_ ?_ ?_ ?_
 ·exact⟨hx1,_,b0,hb0,hG1,aE rfl⟩
 ·rintro j S H' hi ⟨hx,w,b,-,-,z,rfl⟩
  exact⟨_,fW,by simp;omega⟩
 ·clear hG1
  rintro j S H2 hi ⟨hx,w,b,hb,ho,z,rfl⟩;have hi6:6*j+6≤l.length:=by omega
  have hsl:=hv0.mono hx;have hV:aY 256 ((((l.drop (6*j)).take 6).map UInt8.toNat).take 6)=v6 l (6*j):=by rw[List.take_of_length_le (by simp;omega)];rfl
  have h48:=Gs l (6*j);have hgs:jI l (j+1)=jI l j++jT (v6 l (6*j)):=rfl;have hgl:=o4 l j;have hl2:=hx.1;generalize hbs:((l.drop (6*j)).take 6).map UInt8.toNat=bs at *;have hbl:bs.length=6:=by rw[←hbs];simp;omega
  have hb256:∀d ∈ bs,d<256:=by
   intro d hd;rw[←hbs]at hd;obtain⟨b,-,rfl⟩:=List.mem_map.1 hd;exact b.toNat_lt
  have hbg:∀k,k<6→bs.getD k 0=(l.getD (6*j+k) 0).toNat:=by
   intro k hk;rw[←hbs,List.getD_eq_getElem?_getD,List.getElem?_map,List.getElem?_take,if_pos hk,List.getElem?_drop,List.getD_eq_getElem?_getD];rw[List.getElem?_eq_getElem (show 6*j+k<l.length by omega)];rfl
  replace hbs:False∨_:=.inr hbs;replace hbg:False∨_:=.inr hbg;replace hb256:False∨_:=.inr hb256;replace hgs:False∨_:=.inr hgs;replace hV:False∨_:=.inr hV;generalize jI l j=G at *;generalize v6 l (6*j)=V at *;(try simp only[aA]);repeat' ((first|refine aV ?_|refine aU rfl ?_);(try simp only[aA]))
  refine ai (fun k S H'=>H2=H'∧∃N,(N≤aY 256 (bs.take k)∧aY 256 (bs.take k)≤N)∧∃(z:Nat→Value),S=[.slice ad l.length c0,z 1,w,.int .i64 ((6*j:Nat):Int),.int .i64 (N:Nat),.int .i64 (k:Nat),z 6,z 7,z 8,z 9,z 10,z 11,z 12,z 13,z 14,z 15]) 6 ?_ ?_ ?_ ?_
  ·exact⟨rfl,0,by simp[aY],aE rfl⟩
  ·rintro k S H' hk ⟨rfl,N,-,z,rfl⟩
   exact⟨_,fW,by simp;omega⟩
  ·rintro k S H' hk ⟨rfl,N,hN,z,rfl⟩
   have hnt:=gy (B:=256) (l:=bs) (i:=k) (by omega);have hlt:=fY (hb256.resolve_left id) k (by omega);have hp6:256^k≤256^5:=Nat.pow_le_pow_right (by decide) (by omega);have hNl:N<1099511627776:=Nat.lt_of_le_of_lt hN.1 (Nat.lt_of_lt_of_le hlt hp6);have hbk:=hbg.resolve_left id k hk;clear hlt hp6;rw[hbk]at hnt;obtain⟨b1,o,sp,cap,xs,e,hg,hx1',-⟩:=hsl.els 0 (by omega);cases e;have hxa:=hx1' (6*j+k) (by omega);have hxb:xs[o+(6*j+k)]?=some (.int .u8 ((l.getD (6*j+k) 0).toNat:Int)):=hxa;have ew:IntKind.i64.wrap ((l.getD (6*j+k) 0).toNat:Int)=((l.getD (6*j+k) 0).toNat:Int):=wrap_i64 (by omega) (by have:=(l.getD (6*j+k) 0).toNat_lt;omega);have hq:=(l.getD (6*j+k) 0).toNat_lt;replace hx1':False∨_:=.inr hx1';clear hxa hbk;generalize l.getD (6*j+k) 0=q at *;have eix:(((6*j:Nat):Int)+(k:Nat)).toNat=6*j+k:=by omega
   replace hnt:False∨_:=.inr hnt;(try simp only[aA]);(repeat' ((first|refine aV ?_|refine aU rfl ?_);(try simp only[aA])));exact⟨by trivial,256*N+q.toNat,by have:=hnt.resolve_left id;omega,aE (by first|rfl|(simp only[Int.natCast_add,Int.natCast_one];rfl)|simp only[Int.natCast_add,Int.natCast_one])⟩
  rintro S H' ⟨rfl,N,hN,z,rfl⟩;have hNV:N=V:=by have:=hV.resolve_left id;omega
  subst hNV;clear hN hV hbs hbg hb256;(try simp only[aA]);repeat' ((first|refine aV ?_|refine aU rfl ?_);(try simp only[aA]))
  refine ai (fun k S H'=>Ext H H'∧∃(w:Value) (b d:Nat),H.length≤b∧Grow lo H' w b ((cmd::(G++(jT N).take k)).map ag)∧(d≤900^(4-k)∧900^(4-k)≤d)∧∃(z:Nat→Value),S=[.slice ad l.length c0,z 1,w,.int .i64 ((6*j:Nat):Int),.int .i64 (N:Nat),z 5,.int .i64 (d:Nat),.int .i64 (k:Nat),z 8,z 9,z 10,z 11,z 12,z 13,z 14,z 15]) 5 ?_ ?_ ?_ ?_
  ·exact⟨hx,w,b,656100000000,hb,by simpa using ho,by decide,aE rfl⟩
  ·rintro k S H' hk ⟨-,w,b,d,-,-,-,z,rfl⟩
   exact⟨_,fW,by simp;omega⟩
  ·clear ho hsl hx
   rintro k S H3 hk ⟨hx3,w,b,d,hb,ho,hd,z,rfl⟩;have hdp:0<900^(4-k):=Nat.pow_pos (by decide);have hdl:900^(4-k)≤900^4:=Nat.pow_le_pow_right (by decide) (by omega);have hd1:1≤d∧d≤656100000000:=⟨by omega,Nat.le_trans hd.1 hdl⟩;have hde:d=900^(4-k):=by omega
   obtain⟨W,hW⟩:∃W,cmd::(G++(jT N).take k)=W:=⟨_,rfl⟩;rw[hW]at ho;have hWl:W.length≤10000:=by rw[←hW,List.length_cons,List.length_append,List.length_take,gN];omega
   have hwt:cmd::(G++(jT N).take (k+1))=W++[N/d%900]:=by
    rw[List.take_add_one,List.getElem?_eq_getElem (by rw[gN];exact hk),hde,←hW];simp[jT]
   clear hW;have hnx:d/900=0∧900^(4-(k+1))=1∨0<d/900∧900^(4-(k+1))=d/900:=by
    have:k=0∨k=1∨k=2∨k=3∨k=4:=by omega
    rcases this with rfl|rfl|rfl|rfl|rfl<;>simp[hde]
   clear hdp hdl hde hd;have etd:((N:Nat):Int).tdiv (d:Nat)=((N/d:Nat):Int):=rfl;have etn:((N/d:Nat):Int).tmod 900=((N/d%900:Nat):Int):=rfl;have ete:((d:Nat):Int).tdiv 900=((d/900:Nat):Int):=rfl;have hr:=Nat.mod_lt (N/d) (show 900>0 by decide);have hdv:N/d≤N:=Nat.div_le_self _ _;have hd9:d/900≤d:=Nat.div_le_self _ _;generalize N/d%900=r at *;generalize N/d=dv at *;generalize d/900=d9 at *;have hl3:=hx3.1;replace hwt:False∨_:=.inr hwt;replace hnx:False∨_:=.inr hnx;obtain⟨aw,rfl⟩:=ho.len;(try simp only[aA]);(repeat' ((first|refine aV ?_|refine aU rfl ?_);(try simp only[aA])));refine fX ?_;have hxd:=Ext.push H3 (some [ag r]);refine iH (enc:=ag) (fun _=>rfl) (A:=H.length) (m:=[r]) (by simp;omega) hb (by simp;omega) (ho.mono hxd) (Sl.whole (aQ _ _) rfl) (by simp;omega) ?_;intro v' H4 b' hb4 ho4 hk4;have hx4:=hk4.ext (hx3.trans hxd) hb;clear ho;have ho5:Grow lo H4 v' b' ((cmd::(G++(jT N).take (k+1))).map ag):=by
    rw[hwt.resolve_left id];exact ho4
   clear ho4;(try simp only[aA]);(repeat' ((first|refine aV ?_|refine aU rfl ?_);(try simp only[aA])));have hnx:=hnx.resolve_left id;rcases hnx with ⟨h1,h2⟩|⟨h1,h2⟩
   ·have h1i:d9=0:=h1
    subst h1i;replace h2:False∨_:=.inr h2;refine aF (t:=true) (by simp(disch:=first|omega|(simp only[aD];omega))only[evB,cH,Nat.reduceAdd,Nat.reduceMul,Nat.reduceBEq,Int.reduceToNat,Int.reduceEq,Int.reduceNe, *];try rfl) (fun h=>?_) (fun h=>by cases h);clear h;(try simp only[aA]);(repeat' ((first|refine aV ?_|refine aU rfl ?_);(try simp only[aA])));exact⟨hx4,v',b',1,hb4,ho5,by have:=h2.resolve_left id;omega,aE (by first|rfl|(simp only[Int.natCast_add,Int.natCast_one];rfl)|simp only[Int.natCast_add,Int.natCast_one])⟩
   ·replace h2:False∨_:=.inr h2
    refine fU (fun h=>?_) (fun h=>?_)
    ·exfalso;simp only[decide_eq_true_eq]at h;omega
    clear h;(try simp only[aA]);(repeat' ((first|refine aV ?_|refine aU rfl ?_);(try simp only[aA])));exact⟨hx4,v',b',d9,hb4,ho5,by have:=h2.resolve_left id;omega,aE (by first|rfl|(simp only[Int.natCast_add,Int.natCast_one];rfl)|simp only[Int.natCast_add,Int.natCast_one])⟩
  rintro S H3 ⟨hx3,w,b,d,hb,ho,-,z,rfl⟩;rw[List.take_of_length_le (by rw[gN];omega)]at ho;(try simp only[aA]);repeat' ((first|refine aV ?_|refine aU rfl ?_);(try simp only[aA]))
  exact⟨hx3,w,b,hb,by rw[hgs.resolve_left id];exact ho,aE (by rw[show 6*(j+1)=6*j+6 by omega];exact(by first|rfl|(simp only[Int.natCast_add,Int.natCast_one];rfl)|simp only[Int.natCast_add,Int.natCast_one]))⟩
 clear hG1;rintro S H2 ⟨hx,w,b,hb,ho,z,rfl⟩;have hgl:=o4 l (l.length/6);obtain⟨g,hg1,hg2⟩:∃g,g≤6*(l.length/6)∧6*(l.length/6)≤g:=⟨_,Nat.le_refl _,Nat.le_refl _⟩;have hge:6*(l.length/6)=g:=by omega
 rw[hge]at hS6 ⊢;have hgl2:g≤l.length:=by omega
 have hGl:(jI l (l.length/6)).length≤l.length:=by omega
 generalize jI l (l.length/6)=G at *;clear hge hg1 hg2 hgl;(try simp only[aA]);refine ai (fun i S H'=>Ext H H'∧∃(w:Value) (b:Nat),H.length≤b∧Grow lo H' w b ((cmd::(G++((l.drop g).take i).map UInt8.toNat)).map ag)∧∃(z:Nat→Value),S=[.slice ad l.length c0,z 1,w,.int .i64 ((g+i:Nat):Int),z 4,z 5,z 6,z 7,z 8,z 9,z 10,z 11,z 12,z 13,z 14,z 15]) (l.length-g) ?_ ?_ ?_ ?_
 ·exact⟨hx,w,b,hb,by simpa using ho,aE rfl⟩
 ·rintro i S H' hi ⟨-,w,b,-,-,z,rfl⟩
  exact⟨_,fW,by simp;omega⟩
 ·clear ho hx
  rintro i S H3 hi ⟨hx,w,b,hb,ho,z,rfl⟩;have hsl:=hv0.mono hx;obtain⟨b1,o,sp,cap,xs,e,hg,hx1',-⟩:=hsl.els 0 (by omega);cases e;have hxb:xs[o+(g+i)]?=some (.int .u8 ((l.getD (g+i) 0).toNat:Int)):=hx1' (g+i) (by omega);have ew:IntKind.i64.wrap ((l.getD (g+i) 0).toNat:Int)=((l.getD (g+i) 0).toNat:Int):=wrap_i64 (by omega) (by have:=(l.getD (g+i) 0).toNat_lt;omega);obtain⟨W,hW⟩:∃W,cmd::(G++((l.drop g).take i).map UInt8.toNat)=W:=⟨_,rfl⟩;rw[hW]at ho;have hWl:W.length≤10000:=by rw[←hW];simp;omega
  have hts:cmd::(G++((l.drop g).take (i+1)).map UInt8.toNat)=W++[(l.getD (g+i) 0).toNat]:=by
   rw[List.take_add_one,List.map_append,List.getElem?_drop,List.getElem?_eq_getElem (show g+i<l.length by omega),List.getD_eq_getElem?_getD,List.getElem?_eq_getElem (show g+i<l.length by omega),←hW];simp
  clear hW;have eix:(((g+i:Nat):Int)).toNat=g+i:=by omega
  have hq:=(l.getD (g+i) 0).toNat_lt;generalize l.getD (g+i) 0=q at *;replace hx1':False∨_:=.inr hx1';replace hts:False∨_:=.inr hts;have hl3:=hx.1;obtain⟨aw,rfl⟩:=ho.len;(try simp only[aA]);repeat' ((first|refine aV ?_|refine aU rfl ?_);(try simp only[aA]))
  refine fX ?_;have hxd:=Ext.push H3 (some [ag q.toNat]);refine iH (enc:=ag) (fun _=>rfl) (A:=H.length) (m:=[q.toNat]) (by simp;omega) hb (by simp;omega) (ho.mono hxd) (Sl.whole (aQ _ _) rfl) (by simp;omega) ?_;intro v' H4 b' hb4 ho4 hk4;have hx4:=hk4.ext (hx.trans hxd) hb;clear ho;have ho5:Grow lo H4 v' b' ((cmd::(G++((l.drop g).take (i+1)).map UInt8.toNat)).map ag):=by
   rw[hts.resolve_left id];exact ho4
  clear ho4;(try simp only[aA]);repeat' ((first|refine aV ?_|refine aU rfl ?_);(try simp only[aA]))
  exact⟨hx4,v',b',hb4,ho5,aE (by first|rfl|(simp only[Int.natCast_add,Int.natCast_one];rfl)|simp only[Int.natCast_add,Int.natCast_one])⟩
 clear ho hx;rintro S H3 ⟨hx,w,b,hb,ho,z,rfl⟩;rw[List.take_of_length_le (by simp)]at ho;rw[←hS6.resolve_left id]at ho;clear hS6;obtain⟨aw,rfl⟩:=ho.len;(try simp only[aA]);repeat' ((first|refine aV ?_|refine aU rfl ?_);(try simp only[aA]))
 refine fQ ?_;exact⟨hx,b,hb,ho.2⟩
theorem oR(a:List Nat):sle a a:=.inr ⟨rfl,.inl rfl⟩
theorem slt.le{a b:List Nat}(h:slt a b):sle a b:=h.imp id fun h=>⟨h.1,.inr h.2⟩
theorem p5:∀{a b c:List Nat},ltP a b→ltP b c→ltP a c
 | x::a,y::b,z::c,h,h2=>by
  rcases h with h|⟨h,h3⟩<;>rcases h2 with h2|⟨h2,h4⟩
  ·exact .inl (by omega)
  ·exact .inl (by omega)
  ·exact .inl (by omega)
  ·exact .inr ⟨by omega,p5 h3 h4⟩
 | [],_,_,h,_=>by simp[ltP]at h
 | _::_,[],_,h,_=>by simp[ltP]at h
 | _::_,_::_,[],_,h=>by simp[ltP]at h
theorem fm{a b c:List Nat}(h:sle a b)(h2:sle b c):sle a c:=by
 rcases h with h|⟨h,h3⟩<;>rcases h2 with h2|⟨h2,h4⟩
 ·exact .inl (by omega)
 ·exact .inl (by omega)
 ·exact .inl (by omega)
 ·refine .inr ⟨by omega,?_⟩
  rcases h3 with rfl|h3
  ·exact h4
  ·rcases h4 with rfl|h4
   ·exact .inr h3
   ·exact .inr (p5 h3 h4)
theorem um:∀(u:List Nat) {a b:List Nat},ltP a b→ltP (u++a) (u++b)
 | [],_,_,h=>h
 | _::u,_,_,h=>.inr ⟨rfl,um u h⟩
theorem jX(u:List Nat){a b:List Nat}(h:sle a b):sle (u++a) (u++b):=by
 unfold sle;simp only[List.length_append];rcases h with h|⟨h,h2⟩
 ·exact .inl (by omega)
 ·refine .inr ⟨by omega,?_⟩
  rcases h2 with rfl|h2
  ·exact .inl rfl
  ·exact .inr (um u h2)
theorem rX{x y:Nat}(hxy:x≤y){a b:List Nat}(h:sle a b):sle (x::a) (y::b):=by
 by_cases e:x=y
 ·subst e;exact jX [x] h
 ·rcases h with h|⟨h,-⟩
  ·exact .inl (by simp;omega)
  ·exact .inr ⟨by simp[h],.inr (.inl (by omega))⟩
theorem BestIn.le{L:List Nat→Prop}{w x:List Nat}(h:BestIn L w)(hx:L x):sle w x:=h.2 x hx
theorem BestIn.congr{L L':List Nat→Prop}{w:List Nat}(h:BestIn L w)(e:∀x,L x↔L' x):BestIn L' w:=⟨(e w).1 h.1,fun x hx=>h.2 x ((e x).2 hx)⟩
theorem BestIn.take{L:List Nat→Prop}{w x:List Nat}(h:BestIn L w)(hx:slt x w):BestIn (fun y=>L y∨y=x) x:=by
 refine⟨.inr rfl,fun y hy=>?_⟩;rcases hy with hy|rfl
 ·exact fm hx.le (h.2 y hy)
 ·exact oR _
theorem BestIn.stay{L:List Nat→Prop}{w x:List Nat}(h:BestIn L w)(hx:sle w x):BestIn (fun y=>L y∨y=x) w:=by
 refine⟨.inl h.1,fun y hy=>?_⟩;rcases hy with hy|rfl
 ·exact h.2 y hy
 ·exact hx
theorem BestIn.one(x:List Nat):BestIn (fun y=>y=x) x:=⟨rfl,fun y hy=>by subst hy;exact oR _⟩
def Fz(Z:Nat)(H:Heap)(u:Value)(l:List Nat):Prop:=∃k,Grow Z H u k (l.map ag)
theorem Fz.mono{Z:Nat}{H H':Heap}{u:Value}{l:List Nat}(h:Fz Z H u l)(e:Ext H H'):Fz Z H' u l:=by
 obtain⟨k,h⟩:=h;exact⟨k,h.mono e⟩
theorem Fz.keep{Z b:Nat}{H H':Heap}{u:Value}{l:List Nat}(h:Fz Z H u l)(e:Keep b H H')(hb:b<Z):Fz Z H' u l:=by
 obtain⟨k,h⟩:=h;exact⟨k,h.keep e (by have:=h.1;omega)⟩
theorem Fz.sl{Z:Nat}{H:Heap}{u:Value}{l:List Nat}(h:Fz Z H u l):SlN H u l:=by
 obtain⟨k,h⟩:=h;exact h.sl
theorem Fz.lower{Z Z':Nat}{H:Heap}{u:Value}{l:List Nat}(h:Fz Z H u l)(e:Z'≤Z):Fz Z' H u l:=by
 obtain⟨k,h⟩:=h;exact⟨k,h.lower e⟩
theorem Fz.nil{Z:Nat}{H:Heap}:Fz Z H (.slice none 0 0) []:=⟨Z,Grow.nil (Nat.le_refl _)⟩
theorem Fz.same{Z:Nat}{H:Heap}{u:Value}{l:List Nat}(h:Fz Z H u l):iG u u=true:=by
 obtain⟨a,c,rfl⟩:=h.sl.len;simp[iG]
theorem ju:∀{xs:List Value},(∀v ∈ xs,iG v v=true)→eK xs xs=true
 | [],_=>rfl
 | a::l,h=>by
  simp only[eK,Bool.and_eq_true];exact⟨h a (List.mem_cons_self ..),ju fun v hv=>h v (List.mem_cons_of_mem _ hv)⟩
structure RowH (Z:Nat)(H:Heap)(b:Nat)(r:Nat→List Nat)(vs:List Value):Prop where
 get:H.get b=some vs
 len:vs.length=9
 at_:∀s,s<9→∃u,vs[s]?=some u∧Fz Z H u (r s)
theorem RowH.same{Z:Nat}{H:Heap}{b:Nat}{r:Nat→List Nat}{vs:List Value}(h:RowH Z H b r vs):eK vs vs=true:=by
 refine ju fun v hv=>?_;obtain⟨i,hi,rfl⟩:=List.getElem_of_mem hv;obtain⟨u,h1,h2⟩:=h.at_ i (by have:=h.len;omega);rw[List.getElem?_eq_getElem hi]at h1;injection h1 with h1;rw[h1];exact h2.same
theorem RowH.mono{Z:Nat}{H H':Heap}{b:Nat}{r:Nat→List Nat}{vs:List Value}(h:RowH Z H b r vs)(e:Ext H H'):RowH Z H' b r vs:=
 ⟨e.get h.get,h.len,fun s hs=>by obtain⟨u,h1,h2⟩:=h.at_ s hs;exact⟨u,h1,h2.mono e⟩⟩
theorem RowH.keep{Z x:Nat}{H H':Heap}{b:Nat}{r:Nat→List Nat}{vs:List Value}(h:RowH Z H b r vs)(e:Keep x H H')(hx:x<Z)(hb:b≠x):RowH Z H' b r vs:=
 ⟨e.get h.get hb,h.len,fun s hs=>by obtain⟨u,h1,h2⟩:=h.at_ s hs;exact⟨u,h1,h2.keep e hx⟩⟩
def gF(b:Nat):Value:=.slice (some ⟨b,0,some 1⟩) 9 9
structure BestH (A Z:Nat)(H:Heap)(B n:Nat)(rb:Nat→Nat)(R:Nat→Nat→List Nat):Prop where
 get:∃xs,H.get B=some xs∧xs.length=n+1∧∀j,j≤n→xs[j]?=some (gF (rb j))
 low:A≤B∧B<Z
 rows:∀j,j≤n→A≤rb j∧rb j<Z∧rb j≠B
 inj:∀i j,i≤n→j≤n→rb i=rb j→i=j
 row:∀j,j≤n→∃vs,RowH Z H (rb j) (R j) vs
theorem BestH.mono{A Z:Nat}{H H':Heap}{B n:Nat}{rb:Nat→Nat}{R:Nat→Nat→List Nat}(h:BestH A Z H B n rb R)(e:Ext H H'):BestH A Z H' B n rb R:=by
 obtain⟨xs,h1,h2,h3⟩:=h.get;exact⟨⟨xs,e.get h1,h2,h3⟩,h.low,h.rows,h.inj,fun j hj=>by obtain⟨vs,hr⟩:=h.row j hj;exact⟨vs,hr.mono e⟩⟩
theorem BestH.cong{A Z:Nat}{H:Heap}{B n:Nat}{rb:Nat→Nat}{R R':Nat→Nat→List Nat}(h:BestH A Z H B n rb R)(e:∀j s,j≤n→s<9→R j s=R' j s):BestH A Z H B n rb R':=
 ⟨h.get,h.low,h.rows,h.inj,fun j hj=>by
  obtain⟨vs,hr⟩:=h.row j hj;exact⟨vs,hr.get,hr.len,fun s hs=>by obtain⟨u,h1,h2⟩:=hr.at_ s hs;exact⟨u,h1,by rw[←e j s hj hs];exact h2⟩⟩⟩
def j4(R:Nat→Nat→List Nat)(a s:Nat)(l:List Nat):Nat→Nat→List Nat:=fun j t=>if j=a∧t=s then l else R j t
theorem BestH.set{A Z:Nat}{H:Heap}{B n:Nat}{rb:Nat→Nat}{R:Nat→Nat→List Nat}(h:BestH A Z H B n rb R){a s:Nat}{u:Value}{l:List Nat}{vs:List Value}(ha:a≤n)(hs:s<9)(hr:RowH Z H (rb a) (R a) vs)(hu:Fz Z H u l) :
  BestH A Z (H.set (rb a) (some (vs.set s u))) B n rb (j4 R a s l)∧RowH Z (H.set (rb a) (some (vs.set s u))) (rb a) (j4 R a s l a) (vs.set s u):=by
 have hk:Keep (rb a) H (H.set (rb a) (some (vs.set s u))):=⟨by simp,fun i _ hne=>aM (fun e=>hne e.symm)⟩;have hw:=h.rows a ha;have hrow:RowH Z (H.set (rb a) (some (vs.set s u))) (rb a) (j4 R a s l a) (vs.set s u):=by
  refine⟨aN (Heap.get_lt hr.get),by rw[List.length_set];exact hr.len,fun t ht=>?_⟩;by_cases e:t=s
  ·subst e
   refine⟨u,by rw[List.getElem?_set_self (by rw[hr.len];exact ht)],?_⟩;simp only[j4,and_self,if_true];exact hu.keep hk hw.2.1
  ·obtain⟨v,h1,h2⟩:=hr.at_ t ht
   refine⟨v,by rw[List.getElem?_set_ne (fun e2=>e e2.symm)];exact h1,?_⟩;simp only[j4,e,and_false,if_false];exact h2.keep hk hw.2.1
 obtain⟨xs,h1,h2,h3⟩:=h.get;refine⟨⟨⟨xs,hk.get h1 (fun e=>hw.2.2 e.symm),h2,h3⟩,h.low,h.rows,h.inj,fun j hj=>?_⟩,hrow⟩;by_cases e:j=a
 ·subst e;exact⟨_,hrow⟩
 ·obtain⟨ws,hws⟩:=h.row j hj
  refine⟨ws,?_⟩;have:=hws.keep hk hw.2.1 (fun e2=>e (h.inj j a hj ha e2));refine⟨this.get,this.len,fun t ht=>?_⟩;obtain⟨v,q1,q2⟩:=this.at_ t ht;exact⟨v,q1,by simpa only[j4,e,false_and,if_false]using q2⟩
def RunC(p:List UInt8)(a m:Nat)(R:Nat→Nat→List Nat)(x:List Nat):Prop:=∃n,1≤n∧n≤m∧a+n≤p.length∧x=kl ((p.drop a).take n)++R (a+n) 8
def DigC(p:List UInt8)(a m:Nat)(R:Nat→Nat→List Nat)(x:List Nat):Prop:=∃n,1≤n∧n≤m∧a+n≤p.length∧((p.drop a).take n).all bg=true∧x=902::iS ((p.drop a).take n)++R (a+n) 8
def OkR(n a:Nat)(R:Nat→Nat→List Nat):Prop:=∀j s,a<j→j≤n→s<9→(R j s).length≤100000∧∀x ∈ R j s,x≤928
theorem B6(N:Nat):∀x ∈ jT N,x≤928:=by
 intro x hx;unfold jT at hx;obtain⟨k,-,rfl⟩:=List.mem_map.1 hx;have:=Nat.mod_lt (N/900^(4-k)) (show 900>0 by decide);omega
theorem uL(l:List UInt8):∀g,∀x ∈ jI l g,x≤928
 | 0,x,hx=>by simp[jI]at hx
 | g+1,x,hx=>by
  rcases List.mem_append.1 hx with h|h
  ·exact uL l g x h
  ·exact B6 _ x h
theorem ud(l:List UInt8):∀x ∈ kl l,x≤928:=by
 intro x hx;simp only[kl,List.mem_cons,List.mem_append,List.mem_map]at hx;rcases hx with rfl|h|⟨b,-,rfl⟩
 ·split<;>omega
 ·exact uL l _ x h
 ·have:=b.toNat_lt;omega
theorem qk:∀(k:Nat) (l:List UInt8),l.length≤k→∀x ∈ iS l,x≤928
 | 0,l,h,x,hx=>by
  have:l=[]:=List.eq_nil_of_length_eq_zero (by omega);subst this;rw[eJ]at hx;simp at hx
 | k+1,l,h,x,hx=>by
  by_cases h0:l=[]
  ·subst h0;rw[eJ]at hx;simp at hx
  ·have hp:0<l.length:=List.length_pos_iff.2 h0
   rw[gO h0]at hx;rcases List.mem_append.1 hx with hx|hx
   ·have:=qZ _ x hx;omega
   ·exact qk k _ (by simp;omega) x hx
end Go.Proofs.YtgpolmomghejoaaDoor
