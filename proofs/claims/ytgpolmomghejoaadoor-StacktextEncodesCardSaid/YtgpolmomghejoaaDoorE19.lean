/- Lemmas. -/
import Derived.Test.YtgpolmomghejoaaDoorE17
set_option linter.unusedVariables false
set_option linter.unusedSimpArgs false
set_option linter.unusedSectionVars false
namespace Go.Proofs.YtgpolmomghejoaaDoor
open Go.Abs
abbrev Thr:=Nat×Nat×Nat×Nat
def tkS(p:List UInt8)(s:Nat×Nat)(v i:Nat):Option ((Nat×Nat)×Nat):=match stp s.1 s.2 v with
 | none=>none
 | some (c,x,y)=>if c<0 then some ((x,y),0) else if i<p.length∧((p.getD i 0).toNat:Int)=c then some ((x,y),1) else none
def jl(p:List UInt8)(i u:Nat)(s:Nat×Nat)(k v:Nat):List (Nat×Nat×Nat):=match tkS p s v (i+k)with
 | none=>[]
 | some (t,m)=>[(30*u+v,k+m,3*t.1+t.2)]
def lp(p:List UInt8)(i a u:Nat):List (Nat×Nat×Nat):=match tkS p (a/3,a%3) u i with
 | none=>[]
 | some (s,k)=>(List.range 30).flatMap (jl p i u s k)
def bq(p:List UInt8)(i a:Nat):List (Nat×Nat×Nat):=(List.range 30).flatMap (lp p i a)
def dgA(p:List UInt8)(i:Nat):Nat:=(((p.drop i).take 44).takeWhile bg).length
def dF(p:List UInt8)(i k:Nat):List Nat:=dw ((p.drop i).take k)
def v6(p:List UInt8)(i:Nat):Nat:=aY 256 (((p.drop i).take 6).map UInt8.toNat)
def byA(p:List UInt8)(i:Nat):Nat:=(p.getD i 0).toNat
def dE(i:Nat):List (Nat×Thr):=[(900,0,i,0,0),(901,3,i,0,0),(902,5,i,0,0),(924,2,i,0,0)]
def cT(i a b:Nat):Thr:=if b<a/3+1 then(5,i,a,b) else if a=44 then(5,i+a,0,0) else(6,i+a,0,0)
def bK(p:List UInt8):Thr→List (Nat×Thr)
 | (0,i,a,_)=>(bq p i a).map (fun x=>(x.1,0,i+x.2.1,x.2.2,0))++((if i<p.length then[(913,1,i,a/3*3,0)] else[])++dE i)
 | (1,i,a,_)=>[(byA p i,0,i+1,a,0)]
 | (4,i,a,_)=>(if a<5∧i<p.length then[(byA p i,4,i+1,a+1,0)] else[])++dE i
 | (5,i,a,b)=>if 0<a then[((dF p i a).getD b 0,cT i a (b+1))] else dE i++(List.range (dgA p i)).map (fun k=>((dF p i (k+1)).getD 0 0,cT i (k+1) 1))
 | (6,i,_,_)=>dE i
 | (k,i,a,_)=>(if a=0∧k=2 then dE i else[])++((if a=0∧k=3∧i<p.length then[(byA p i,4,i+1,1,0)] else[])++(if i+6≤p.length then[(v6 p i/900^(4-a)%900,if a=4 then(k,i+6,0,0) else(k,i,a+1,0))] else[]))
def nb(p:List UInt8):Thr→Prop
 | (0,i,_,_)=>i=p.length
 | (2,i,a,_)=>i=p.length∧a=0
 | (4,i,_,_)=>i=p.length
 | (5,i,a,_)=>i=p.length∧a=0
 | (6,i,_,_)=>i=p.length
 | _=>False
def Acc(p:List UInt8):Thr→List Nat→Prop
 | t,[]=>nb p t
 | t,w::ws=>∃t',(w,t') ∈ bK p t∧Acc p t' ws
def VT(p:List UInt8):Thr→Prop
 | (0,i,a,b)=>i≤p.length∧a<12∧b=0
 | (1,i,a,b)=>i<p.length∧a<12∧b=0
 | (2,i,a,b)=>i≤p.length∧a<5∧(0<a→i+6≤p.length)∧b=0
 | (3,i,a,b)=>i≤p.length∧a<5∧(0<a→i+6≤p.length)∧b=0
 | (4,i,a,b)=>i≤p.length∧1≤a∧a≤5∧b=0
 | (5,i,a,b)=>i≤p.length∧a≤dgA p i∧(a=0→b=0)∧(0<a→1≤b∧b<a/3+1)
 | (6,i,a,b)=>i≤p.length∧a=0∧b=0
 | _=>False
structure Tab where
 tx:Nat→Nat→Nat
 sx:Nat→Nat
 nn:Nat→Nat
 tl:Nat→Nat→Nat
 dg:Nat→Nat
 en:Nat→Nat
def cst(T:Tab):Thr→Nat
 | (0,i,a,_)=>T.tx i a
 | (1,i,a,_)=>1+T.tx (i+1) a
 | (2,i,a,_)=>if 0<a then 5-a+T.sx (i+6) else T.sx i
 | (3,i,a,_)=>if 0<a then 5-a+T.nn (i+6) else T.nn i
 | (4,i,a,_)=>T.tl i a
 | (5,i,a,b)=>if a=44 then 15-b+T.dg (i+a) else if 0<a then a/3+1-b+T.en (i+a) else T.dg i
 | (_,i,_,_)=>T.en i
def mc(T:Tab)(i:Nat):Nat:=1+min (min (min (T.tx i 0) (T.sx i)) (T.nn i)) (T.dg i)
def gg(T:Tab)(i k:Nat):Nat:=if k=44 then T.dg (i+k) else T.en (i+k)
structure LowA (p:List UInt8)(T:Tab)(i:Nat):Prop where
 ar:∀s,s<12→∀x ∈ bq p i s,T.tx i s≤1+T.tx (i+x.2.1) x.2.2
 by1:i<p.length→∀s,s<12→T.tx i s≤2+T.tx (i+1) (s/3*3)
 cm:∀s,s<12→T.tx i s≤mc T i
 en:T.en i≤mc T i
 sx:T.sx i≤T.en i
 dg:T.dg i≤T.en i
 tl:∀t,1≤t→t≤5→T.tl i t≤T.en i
 s6:i+6≤p.length→T.sx i≤5+T.sx (i+6)
 n6:i+6≤p.length→T.nn i≤5+T.nn (i+6)
 n1:i<p.length→T.nn i≤1+T.tl (i+1) 1
 t1:i<p.length→∀t,1≤t→t<5→T.tl i t≤1+T.tl (i+1) (t+1)
 dk:∀k,1≤k→k≤dgA p i→T.dg i≤k/3+1+gg T i k
 e0:i=p.length→T.en i=0∧∀s,s<12→T.tx i s=0
def At1(p:List UInt8)(t:Thr)(c:Nat):Prop:=1073741824≤c∨∃w,Acc p t w∧w.length=c
structure AttA (p:List UInt8)(T:Tab)(i:Nat):Prop where
 tx:∀s,s<12→At1 p (0,i,s,0) (T.tx i s)
 sx:At1 p (2,i,0,0) (T.sx i)
 nn:At1 p (3,i,0,0) (T.nn i)
 tl:∀t,1≤t→t≤5→At1 p (4,i,t,0) (T.tl i t)
 dg:At1 p (5,i,0,0) (T.dg i)
 en:At1 p (6,i,0,0) (T.en i)
theorem iM(p:List UInt8)(i:Nat):dgA p i≤44∧i+dgA p i≤p.length∨dgA p i=0:=by
 have h:=(List.takeWhile_sublist bg (l:=(p.drop i).take 44)).length_le;have h2:((p.drop i).take 44).length=min 44 (p.length-i):=by simp
 unfold dgA;omega
theorem ln{p:List UInt8}{T:Tab}{i:Nat}{w:Nat}{t:Thr}(h:(w,t) ∈ dE i)(hi:i≤p.length):VT p t∧mc T i≤1+cst T t∧900≤w∧w≤924∧w≠913:=by
 simp only[dE,List.mem_cons,List.not_mem_nil,or_false,Prod.mk.injEq]at h;rcases h with ⟨rfl,rfl⟩|⟨rfl,rfl⟩|⟨rfl,rfl⟩|⟨rfl,rfl⟩<;>refine⟨by simp[VT,hi],by simp[mc,cst];omega,by omega,by omega,by omega⟩
theorem oi{p:List UInt8}{s:Nat×Nat}{v i:Nat}{t:Nat×Nat}{m:Nat}(h:tkS p s v i=some (t,m))(h1:s.1<4)(h2:s.2<3)(hv:v<30):t.1<4∧t.2<3∧m≤1∧(m=1→i<p.length)∧∃c,stp s.1 s.2 v=some (c,t.1,t.2)∧chS c=(p.drop i).take m:=by
 unfold tkS at h;split at h
 ·cases h
 ·rename_i c x y e
  have:=nz h1 h2 hv e;split at h
  ·injection h with h;injection h with ha hb;subst ha hb
   exact⟨this.2.2.1,this.2.2.2,by omega,by omega,c,e,by rw[chS,if_neg (by omega)];simp⟩
  ·split at h
   ·rename_i h0 h3
    injection h with h;injection h with ha hb;subst ha hb;refine⟨this.2.2.1,this.2.2.2,by omega,fun _=>h3.1,c,e,?_⟩;rw[chS,if_pos (by omega),←h3.2,List.take_one,List.head?_drop,List.getD_eq_getElem?_getD];rw[List.getElem?_eq_getElem h3.1];simp
   ·cases h
theorem lS{p:List UInt8}{i a:Nat}{x:Nat×Nat×Nat}(h:x ∈ bq p i a)(ha:a<12)(hi:i≤p.length):∃u v c d k m y,x.1=30*u+v∧u<30∧v<30∧stp (a/3) (a%3) u=some (c,y)∧stp y.1 y.2 v=some (d,x.2.2/3,x.2.2%3)∧chS c=(p.drop i).take k∧chS d=(p.drop (i+k)).take m∧x.2.1=k+m∧x.2.2<12∧k≤1∧m≤1∧i+k+m≤p.length:=by
 simp only[bq,List.mem_flatMap,List.mem_range]at h;obtain⟨u,hu,h⟩:=h;unfold lp at h;split at h
 ·simp at h
 ·rename_i s k e
  obtain⟨s1,s2,hk,hk1,c,hc,hc2⟩:=oi e (by omega) (by omega) hu;simp only[List.mem_flatMap,List.mem_range]at h;obtain⟨v,hv,h⟩:=h;unfold jl at h;split at h
  ·simp at h
  ·rename_i t m e2
   obtain⟨t1,t2,hm,hm1,d,hd,hd2⟩:=oi e2 s1 s2 hv;simp only[List.mem_cons,List.not_mem_nil,or_false]at h;subst h;refine⟨u,v,c,d,k,m,s,rfl,hu,hv,hc,?_,hc2,hd2,rfl,by simp only;omega,hk,hm,by omega⟩;simp only;rw[hd,show(3*t.1+t.2)/3=t.1 by omega,show(3*t.1+t.2)%3=t.2 by omega]
theorem Co{p:List UInt8}{i a u v k m:Nat}{s t:Nat×Nat}(hu:u<30)(hv:v<30)(h1:tkS p (a/3,a%3) u i=some (s,k))(h2:tkS p s v (i+k)=some (t,m)):(30*u+v,k+m,3*t.1+t.2) ∈ bq p i a:=by
 simp only[bq,List.mem_flatMap,List.mem_range];refine⟨u,hu,?_⟩;simp only[lp,h1,List.mem_flatMap,List.mem_range];exact⟨v,hv,by simp[jl,h2]⟩
theorem AG{p:List UInt8}{i a b:Nat}(ha:0<a)(hd:a≤dgA p i)(hb:1≤b):VT p (cT i a b):=by
 have:=iM p i;unfold cT;split
 ·exact⟨by omega,hd,by omega,fun _=>⟨hb,by omega⟩⟩
 ·split
  ·exact⟨by omega,by omega,by simp,by simp⟩
  ·exact⟨by omega,rfl,rfl⟩
theorem ug{T:Tab}{i a b:Nat}(ha:0<a)(hb:b≤a/3+1):cst T (cT i a b)=a/3+1-b+gg T i a:=by
 unfold cT gg;split
 ·simp only[cst]
  split
  ·rename_i h;subst h;simp
  ·rfl
 ·have:b=a/3+1:=by omega
  split
  ·simp[cst,this]
  ·simp[cst,this]
theorem mP{p:List UInt8}{T:Tab}(hl:∀i,i≤p.length→LowA p T i){t t':Thr}{w:Nat}(hv:VT p t)(h:(w,t') ∈ bK p t):VT p t'∧cst T t≤1+cst T t':=by
 obtain⟨k,i,a,b⟩:=t;have hi:i≤p.length:=by
  match k,hv with
  | 0,hv=>exact hv.1
  | 1,hv=>exact Nat.le_of_lt hv.1
  | 2,hv=>exact hv.1
  | 3,hv=>exact hv.1
  | 4,hv=>exact hv.1
  | 5,hv=>exact hv.1
  | 6,hv=>exact hv.1
 have L:=hl i hi
 match k,hv with
 | 0,hv=>
  simp only[bK,List.mem_append,List.mem_map]at h;rcases h with ⟨x,hx,e⟩|h|h
  ·injection e with e1 e2
   subst e2;obtain⟨u,v,c,d,k,m,y,h1,hu,hv2,h3,h4,h5,h6,h7,h8,h9,h10,h11⟩:=lS hx hv.2.1 hi;exact⟨⟨by omega,h8,rfl⟩,L.ar a hv.2.1 x hx⟩
  ·split at h
   ·rename_i hlt
    simp only[List.mem_cons,List.not_mem_nil,or_false,Prod.mk.injEq]at h;obtain⟨-,rfl⟩:=h;have h1:=hv.2.1;have h2:=L.by1 hlt a h1;exact⟨⟨hlt,by omega,rfl⟩,by simp only[cst];omega⟩
   ·simp at h
  ·have:=ln (T:=T) h hi
   exact⟨this.1,Nat.le_trans (L.cm a hv.2.1) this.2.1⟩
 | 1,hv=>
  simp only[bK,List.mem_cons,List.not_mem_nil,or_false,Prod.mk.injEq]at h;obtain⟨-,rfl⟩:=h;exact⟨⟨hv.1,hv.2.1,rfl⟩,by simp[cst]⟩
 | 2,hv=>
  simp only[bK,List.mem_append]at h;obtain⟨-,ha,ha6,rfl⟩:=hv;rcases h with h|h|h
  ·split at h
   ·rename_i h0
    have:=ln (T:=T) h hi;refine⟨this.1,Nat.le_trans ?_ this.2.1⟩;rw[h0.1];exact Nat.le_trans L.sx L.en
   ·simp at h
  ·simp at h
  ·split at h
   ·rename_i h6
    simp only[List.mem_cons,List.not_mem_nil,or_false,Prod.mk.injEq]at h;obtain⟨-,rfl⟩:=h;split
    ·rename_i h4
     subst h4;exact⟨⟨by omega,by omega,by omega,rfl⟩,by simp[cst]⟩
    ·refine⟨⟨by omega,by omega,by omega,rfl⟩,?_⟩
     have:=L.s6 h6;by_cases h0:a=0
     ·subst h0;simp[cst];omega
     ·simp[cst,show 0<a by omega];omega
   ·simp at h
 | 3,hv=>
  simp only[bK,List.mem_append]at h;obtain⟨-,ha,ha6,rfl⟩:=hv;rcases h with h|h|h
  ·simp at h
  ·split at h
   ·rename_i h0
    simp only[List.mem_cons,List.not_mem_nil,or_false,Prod.mk.injEq]at h;obtain⟨-,rfl⟩:=h;refine⟨⟨by omega,by omega,by omega,rfl⟩,?_⟩;rw[h0.1];exact L.n1 h0.2.2
   ·simp at h
  ·split at h
   ·rename_i h6
    simp only[List.mem_cons,List.not_mem_nil,or_false,Prod.mk.injEq]at h;obtain⟨-,rfl⟩:=h;split
    ·rename_i h4
     subst h4;exact⟨⟨by omega,by omega,by omega,rfl⟩,by simp[cst]⟩
    ·refine⟨⟨by omega,by omega,by omega,rfl⟩,?_⟩
     have:=L.n6 h6;by_cases h0:a=0
     ·subst h0;simp[cst];omega
     ·simp[cst,show 0<a by omega];omega
   ·simp at h
 | 4,hv=>
  simp only[bK,List.mem_append]at h;obtain⟨-,ha,ha5,rfl⟩:=hv;rcases h with h|h
  ·split at h
   ·rename_i h0
    simp only[List.mem_cons,List.not_mem_nil,or_false,Prod.mk.injEq]at h;obtain⟨-,rfl⟩:=h;exact⟨⟨by omega,by omega,by omega,rfl⟩,L.t1 h0.2 a ha h0.1⟩
   ·simp at h
  ·have:=ln (T:=T) h hi
   exact⟨this.1,Nat.le_trans (Nat.le_trans (L.tl a ha ha5) L.en) this.2.1⟩
 | 5,hv=>
  simp only[bK]at h;obtain⟨-,hd,hb0,hb⟩:=hv;split at h
  ·rename_i ha
   simp only[List.mem_cons,List.not_mem_nil,or_false,Prod.mk.injEq]at h;obtain⟨-,rfl⟩:=h;have hb:=hb ha;refine⟨AG ha hd (by omega),?_⟩;rw[ug ha (by omega)];simp only[cst,gg];split
   ·rename_i h44;subst h44;omega
   ·omega
  ·rename_i ha
   have ha:a=0:=by omega
   subst ha;simp only[List.mem_append,List.mem_map,List.mem_range]at h;rcases h with h|⟨k,hk,h⟩
   ·have:=ln (T:=T) h hi
    exact⟨this.1,Nat.le_trans (Nat.le_trans L.dg L.en) this.2.1⟩
   ·injection h with h1 h2
    subst h2;refine⟨AG (by omega) (by omega) (by omega),?_⟩;rw[ug (by omega) (by omega)];have:=L.dk (k+1) (by omega) (by omega);simp[cst];omega
 | 6,hv=>
  have:=ln (T:=T) h hi;exact⟨this.1,Nat.le_trans L.en this.2.1⟩
theorem As{p:List UInt8}{T:Tab}(hl:∀i,i≤p.length→LowA p T i){t:Thr}(hv:VT p t)(h:nb p t):cst T t=0:=by
 obtain⟨k,i,a,b⟩:=t;have L:=hl p.length (Nat.le_refl _);have e:=L.e0 rfl
 match k,hv,h with
 | 0,hv,h=>have h:i=p.length:=h;subst h;exact e.2 a hv.2.1
 | 2,hv,h=>obtain⟨h,h2⟩:i=p.length∧a=0:=h;subst h h2;have:=L.sx;simp[cst];omega
 | 4,hv,h=>have h:i=p.length:=h;subst h;have:=L.tl a hv.2.1 hv.2.2.1;simp[cst];omega
 | 5,hv,h=>obtain⟨h,h2⟩:i=p.length∧a=0:=h;subst h h2;have:=L.dg;simp[cst];omega
 | 6,hv,h=>have h:i=p.length:=h;subst h;exact e.1
theorem nU{p:List UInt8}{T:Tab}(hl:∀i,i≤p.length→LowA p T i):∀{w:List Nat} {t:Thr},VT p t→Acc p t w→cst T t≤w.length
 | [],t,hv,h=>by rw[As hl hv h];exact Nat.zero_le _
 | x::w,t,hv,⟨t',hm,h⟩=>by
  have:=mP hl hv hm;have:=nU hl this.1 h;simp only[List.length_cons];omega
theorem At1.step{p:List UInt8}{t t':Thr}{w c:Nat}(ha:At1 p t' c)(h:(w,t') ∈ bK p t):At1 p t (1+c):=by
 rcases ha with ha|⟨v,h1,h2⟩
 ·exact .inl (by omega)
 ·exact .inr ⟨w::v,⟨t',h,h1⟩,by simp only[List.length_cons];omega⟩
theorem At1.of_eq{p:List UInt8}{t:Thr}{c d:Nat}(ha:At1 p t c)(h:c=d):At1 p t d:=h▸ha
theorem At1.far{p:List UInt8}{t:Thr}:At1 p t 1073741824:=.inl (Nat.le_refl _)
theorem At1.min{p:List UInt8}{t:Thr}{c d:Nat}(h1:At1 p t c)(h2:At1 p t d):At1 p t (min c d):=by
 rcases Nat.le_total c d with h|h
 ·rw[Nat.min_eq_left h];exact h1
 ·rw[Nat.min_eq_right h];exact h2
def ik(p:List UInt8)(t:Thr)(i:Nat):Prop:=∀x ∈ dE i,x ∈ bK p t
theorem Fx(p:List UInt8)(i a b:Nat):ik p (0,i,a,b) i:=fun x hx=>by simp only[bK,List.mem_append];exact .inr (.inr hx)
theorem Fi(p:List UInt8)(i:Nat):ik p (2,i,0,0) i:=fun x hx=>by simp only[bK,List.mem_append];exact .inl (by simpa using hx)
theorem Gp(p:List UInt8)(i a b:Nat):ik p (4,i,a,b) i:=fun x hx=>by simp only[bK,List.mem_append];exact .inr hx
theorem G3(p:List UInt8)(i:Nat):ik p (5,i,0,0) i:=fun x hx=>by simp only[bK,Nat.lt_irrefl,if_false,List.mem_append];exact .inl hx
theorem Gh(p:List UInt8)(i a b:Nat):ik p (6,i,a,b) i:=fun x hx=>hx
theorem At1.ofEnd{p:List UInt8}{t:Thr}{i c:Nat}(h:At1 p (6,i,0,0) c)(hc:ik p t i)(hf:i=p.length→nb p t):At1 p t c:=by
 rcases h with h|⟨v,h1,h2⟩
 ·exact .inl h
 ·refine .inr ⟨v,?_,h2⟩
  cases v with
  | nil=>exact hf h1
  | cons x v=>obtain⟨t',h3,h4⟩:=h1;exact⟨t',hc _ h3,h4⟩
theorem At1.cmd{p:List UInt8}{T:Tab}{t:Thr}{i:Nat}(h0:At1 p (0,i,0,0) (T.tx i 0))(h1:At1 p (2,i,0,0) (T.sx i))(h2:At1 p (3,i,0,0) (T.nn i))(h3:At1 p (5,i,0,0) (T.dg i))(hc:ik p t i):At1 p t (mc T i):=by
 have a0:=h0.step (hc (900,0,i,0,0) (by simp[dE]));have a1:=h1.step (hc (924,2,i,0,0) (by simp[dE]));have a2:=h2.step (hc (901,3,i,0,0) (by simp[dE]));have a3:=h3.step (hc (902,5,i,0,0) (by simp[dE]));unfold mc;rw[←Nat.add_min_add_left,←Nat.add_min_add_left,←Nat.add_min_add_left];exact((a0.min a1).min a2).min a3
theorem At1.six{p:List UInt8}{k i c:Nat}(hk:k=2∨k=3)(hi:i+6≤p.length)(h:At1 p (k,i+6,0,0) c):∀n a,n+a=5→1≤n→At1 p (k,i,a,0) (n+c):=by
 intro n
 induction n with
 | zero=>intro a _ h;omega
 | succ n ih=>
  intro a ha _;have hm:(v6 p i/900^(4-a)%900,if a=4 then((k,i+6,0,0):Thr) else(k,i,a+1,0)) ∈ bK p (k,i,a,0):=by
   rcases hk with rfl|rfl<;>simp only[bK,List.mem_append]<;>exact .inr (.inr (by simp[hi]))
  by_cases h4:a=4
  ·rw[if_pos h4]at hm
   have:n=0:=by omega
   subst this;exact(h.step hm).of_eq (by omega)
  ·rw[if_neg h4]at hm
   exact((ih (a+1) (by omega) (by omega)).step hm).of_eq (by omega)
theorem At1.dig{p:List UInt8}{i a c:Nat}(ha:0<a)(h:At1 p (cT i a (a/3+1)) c):∀n b,n+b=a/3+1→At1 p (cT i a b) (n+c):=by
 intro n
 induction n with
 | zero=>intro b hb;rw[show b=a/3+1 by omega];exact h.of_eq (by omega)
 | succ n ih=>
  intro b hb;have e:cT i a b=(5,i,a,b):=by unfold cT;rw[if_pos (by omega)]
  rw[e];refine((ih (b+1) (by omega)).step (w:=(dF p i a).getD b 0) ?_).of_eq (by omega);simp only[bK,if_pos ha];exact List.mem_singleton.2 rfl
theorem At1.digE{p:List UInt8}{T:Tab}{i a:Nat}(h1:At1 p (5,i+a,0,0) (T.dg (i+a)))(h2:At1 p (6,i+a,0,0) (T.en (i+a))):At1 p (cT i a (a/3+1)) (gg T i a):=by
 unfold cT gg;rw[if_neg (by omega)];split
 ·exact h1
 ·exact h2
theorem uI{p:List UInt8}{T:Tab}(hl:∀i,i≤p.length→AttA p T i){t:Thr}(hv:VT p t):At1 p t (cst T t):=by
 obtain⟨k,i,a,b⟩:=t
 match k,hv with
 | 0,hv=>obtain⟨h1,h2,rfl⟩:=hv;exact(hl i h1).tx a h2
 | 1,hv=>
  obtain⟨h1,h2,rfl⟩:=hv;exact((hl (i+1) h1).tx a h2).step (w:=byA p i) (by simp[bK])
 | 2,hv=>
  obtain⟨h1,h2,h3,rfl⟩:=hv;simp only[cst];split
  ·rename_i h0
   exact At1.six (.inl rfl) (h3 h0) (hl (i+6) (h3 h0)).sx (5-a) a (by omega) (by omega)
  ·rw[show a=0 by omega];exact(hl i h1).sx
 | 3,hv=>
  obtain⟨h1,h2,h3,rfl⟩:=hv;simp only[cst];split
  ·rename_i h0
   exact At1.six (.inr rfl) (h3 h0) (hl (i+6) (h3 h0)).nn (5-a) a (by omega) (by omega)
  ·rw[show a=0 by omega];exact(hl i h1).nn
 | 4,hv=>obtain⟨h1,h2,h3,rfl⟩:=hv;exact(hl i h1).tl a h2 h3
 | 5,hv=>
  obtain⟨h1,h2,h3,h4⟩:=hv;by_cases ha:0<a
  ·have h4:=h4 ha
   have hd:=iM p i;have e:cT i a b=(5,i,a,b):=by unfold cT;rw[if_pos h4.2]
   have L:=hl (i+a) (by omega);have:=At1.dig ha (At1.digE L.dg L.en) (a/3+1-b) b (by omega);rw[e]at this;refine this.of_eq ?_;simp only[cst,gg];split
   ·rename_i h44;subst h44;rfl
   ·rfl
  ·have ha:a=0:=by omega
   subst ha;rw[h3 rfl];exact(hl i h1).dg
 | 6,hv=>obtain⟨h1,rfl,rfl⟩:=hv;exact(hl i h1).en
def ltP:List Nat→List Nat→Prop
 | a::l,b::m=>a<b∨a=b∧ltP l m
 | _,_=>False
theorem vI:∀{l m:List Nat} (v:List Nat),ltP l m→ltP (l++v) m
 | a::l,b::m,v,h=>by
  rcases h with h|⟨h,h2⟩
  ·exact .inl h
  ·exact .inr ⟨h,vI v h2⟩
 | [],_,_,h=>by simp[ltP]at h
 | _::_,[],_,h=>by simp[ltP]at h
theorem sg{x y:Nat}(h:x<y):∀(l v w:List Nat),ltP (l++x::v) (l++y::w)
 | [],v,w=>.inl h
 | a::l,v,w=>.inr ⟨rfl,sg h l v w⟩
theorem pL:∀{l m:List Nat},ltP l m→¬ ltP m l
 | a::l,b::m,h,h2=>by
  rcases h with h|⟨h,h3⟩<;>rcases h2 with h2|⟨h2,h4⟩
  ·omega
  ·omega
  ·omega
  ·exact pL h3 h4
 | [],_,h,_=>by simp[ltP]at h
 | _::_,[],h,_=>by simp[ltP]at h
def BestIn(L:List Nat→Prop)(w:List Nat):Prop:=L w∧∀w',L w'→w.length<w'.length∨w.length=w'.length∧(w'=w∨ltP w w')
theorem BestIn.uniq{L:List Nat→Prop}{w w':List Nat}(h:BestIn L w)(h':BestIn L w'):w=w':=by
 rcases h.2 w' h'.1 with h1|⟨h1,h2|h2⟩
 ·rcases h'.2 w h.1 with h3|⟨h3,-⟩<;>omega
 ·exact h2.symm
 ·rcases h'.2 w h.1 with h3|⟨h3,h4|h4⟩
  ·omega
  ·exact h4
  ·exact absurd h4 (pL h2)
structure Now (p:List UInt8)(T:Tab)(now:List Thr)(ws:List Nat)(left:Nat):Prop where
 ne:now≠[]
 ok:∀t ∈ now,VT p t∧cst T t=left∧∀v,Acc p t v→Acc p (0,0,0,0) (ws++v)
 all:∀w,Acc p (0,0,0,0) w→w.length=ws.length+left→(∃v,w=ws++v∧∃t ∈ now,Acc p t v)∨ltP ws w
structure Adv (p:List UInt8)(T:Tab)(now:List Thr)(left best:Nat)(next:List Thr):Prop where
 low:∀t ∈ now,∀x ∈ bK p t,cst T x.2=left→best≤x.1∧(x.1=best→x.2 ∈ next)
 mem:∀t' ∈ next,cst T t'=left∧∃t ∈ now,(best,t') ∈ bK p t
 none:next=[]→∀t ∈ now,∀x ∈ bK p t,cst T x.2≠left
theorem JY{p:List UInt8}{T:Tab}:Now p T [(0,0,0,0)] [] (T.tx 0 0) where
 ne:=by simp
 ok:=fun t ht=>by
  simp only[List.mem_cons,List.not_mem_nil,or_false]at ht;subst ht;exact⟨⟨Nat.zero_le _,by omega,rfl⟩,rfl,fun v hv=>hv⟩
 all:=fun w hw _=>.inl ⟨w,rfl,_,List.mem_singleton.2 rfl,hw⟩
theorem yM{p:List UInt8}{T:Tab}{now next:List Thr}{ws:List Nat}{left best:Nat}(hl:∀i,i≤p.length→LowA p T i)(ha:∀i,i≤p.length→AttA p T i)(hf:left<1000000)(h:Now p T now ws (left+1))(hd:Adv p T now left best next):Now p T next (ws++[best]) left where
 ne:=fun e=>by
  obtain⟨t,ht⟩:=List.exists_mem_of_ne_nil _ h.ne;obtain⟨h1,h2,h3⟩:=h.ok t ht;rcases uI ha h1 with h4|⟨w,h4,h5⟩
  ·omega
  ·cases w with
   | nil=>simp at h5;omega
   | cons x w=>
    obtain⟨t',h6,h7⟩:=h4;have h8:=mP hl h1 h6;have h9:=nU hl h8.1 h7;simp only[List.length_cons]at h5;have h10:=h8.2;exact hd.none e t ht _ h6 (by simp only;omega)
 ok:=fun t' ht'=>by
  obtain⟨h1,t,h2,h3⟩:=hd.mem t' ht';obtain⟨h4,h5,h6⟩:=h.ok t h2;refine⟨(mP hl h4 h3).1,h1,fun v hv=>?_⟩;have:=h6 (best::v) ⟨t',h3,hv⟩;rwa [List.append_assoc]
 all:=fun w hw hlen=>by
  simp only[List.length_append,List.length_singleton]at hlen;rcases h.all w hw (by omega)with ⟨v,e,t,ht,hv⟩|hlt
  ·cases v with
   | nil=>subst e;simp only[List.append_nil]at hlen;omega
   | cons x v=>
    obtain⟨t',h6,h7⟩:=hv;obtain⟨h1,h2,h3⟩:=h.ok t ht;have h8:=mP hl h1 h6;have h9:=nU hl h8.1 h7;subst e;simp only[List.length_append,List.length_cons]at hlen;obtain⟨h10,h11⟩:=hd.low t ht _ h6 (by simp only;omega);simp only at h10 h11;by_cases he:x=best
    ·subst he
     exact .inl ⟨v,by simp,t',h11 rfl,h7⟩
    ·exact .inr (sg (by omega) ws [] v)
  ·exact .inr (vI _ hlt)
theorem AX{p:List UInt8}{T:Tab}{now:List Thr}{ws:List Nat}(hl:∀i,i≤p.length→LowA p T i)(ha:∀i,i≤p.length→AttA p T i)(hL:ws.length=T.tx 0 0)(h:Now p T now ws 0):BestIn (Acc p (0,0,0,0)) ws:=by
 obtain⟨t,ht⟩:=List.exists_mem_of_ne_nil _ h.ne;obtain⟨h1,h2,h3⟩:=h.ok t ht;refine⟨?_,fun w hw=>?_⟩
 ·rcases uI ha h1 with h4|⟨v,h4,h5⟩
  ·omega
  ·have:v=[]:=List.length_eq_zero_iff.1 (by omega)
   subst this;simpa using h3 [] h4
 ·have hlow:=nU hl (t:=(0,0,0,0)) ⟨Nat.zero_le _,by omega,rfl⟩ hw
  have hc:cst T (0,0,0,0)=T.tx 0 0:=rfl;by_cases hlen:w.length=ws.length
  ·refine .inr ⟨hlen.symm,?_⟩
   rcases h.all w hw (by omega)with ⟨v,e,-⟩|h
   ·subst e
    simp only[List.length_append]at hlen;have:v=[]:=List.length_eq_zero_iff.1 (by omega);subst this;exact .inl (by simp)
   ·exact .inr h
  ·exact .inl (by omega)
end Go.Proofs.YtgpolmomghejoaaDoor
