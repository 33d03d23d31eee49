/- Lemmas. -/
import Derived.Test.YtgpolmomghejoaaDoorE2
set_option linter.unusedVariables false
set_option linter.unusedSimpArgs false
set_option linter.unusedSectionVars false
namespace Go.Abs
abbrev Raw:=Nat→Value
def aW(T:Raw):Operand→Value
 | .tmp t=>T t
 | .const v=>v
 | .global g=>.pointer (some ⟨g,0,none⟩)
 | .func f=>.func (.func f) #[] #[]
def eN(T:Raw)(dst:Option Nat)(v:Value):Raw:=
 match dst with
 | some d=>fun t=>if t=d then v else T t
 | none=>T
def qK(T:Raw)(t:Nat)(want:Bool):Bool:=
 match T t with
 | .bool b=>b==want
 | _=>false
def bO(ops:List Oper)(T:Raw)(o:Oper):Bool:=
 match o.guard with
 | none=>true
 | some (j,want)=>match ops[j]? with
  | some oj=>match oj.dst with
   | some t=>qK T t want
   | none=>false
  | none=>false
def bP(P:Program)(callA:dN)(lo:Nat)(ops:List Oper)(raised:cG)(o:Oper)(T:Raw)(H:Heap):Option (Raw×Heap):=
 if bO ops T o then
  match rsv P raised o with
  | (.l l,xs)=>match aG l (xs.map (aW T)) H with
   | some v=>some (eN T o.dst v,H)
   | none=>none
  | (.h h,xs)=>match hsem callA lo h (xs.map (aW T)) H with
   | some (v,H')=>some (eN T o.dst v,H')
   | none=>none
 else some (eN T o.dst undef,H)
def bU(P:Program)(callA:dN)(lo:Nat)(ops:List Oper)(raised:Nat→cG):List Nat→Raw→Heap→Option (Raw×Heap)
 | [],T,H=>some (T,H)
 | i::r,T,H=>match ops[i]? with
  | some o=>match bP P callA lo ops (raised i) o T H with
   | some (T',H')=>bU P callA lo ops raised r T' H'
   | none=>none
  | none=>none
section
variable {P:Program}{callA:dN}{lo:Nat}{tr:List Nat}{ops:List Oper}{S:List Value}{H:Heap}{T:Raw}
def aZ(S:List Value)(H:Heap)(pc:PC):Prop:=holds S H pc=some true
theorem dh:aZ S H []:=rfl
theorem eS:∀(p q:PC),aZ S H (p++q)↔aZ S H p∧aZ S H q
 | [],q=>by simp[aZ,holds]
 | (c,want)::p,q=>by
  have ih:=eS p q;unfold aZ at ih ⊢;simp only[List.cons_append,holds];split
  ·rename_i b hb
   by_cases h:b=want
   ·simp only[h,if_true];exact ih
   ·simp[h]
  ·simp
theorem jF(c:E)(want:Bool):aZ S H [(c,want)]↔ev1 S H c=some (.bool want):=by
 unfold aZ;simp only[holds];split
 ·rename_i b hb
  rw[hb];by_cases h:b=want
  ·simp[h]
  ·simp[h]
 ·rename_i h
  constructor
  ·intro h;simp at h
  ·intro e;exact absurd e (by intro e;exact h want e)
def AO(S:List Value)(H:Heap)(T:Raw)(x:Ent):Prop:=
 (aZ S H x.pc→ev1 S H x.e=some (T x.t))∧(¬ aZ S H x.pc→T x.t=undef)
structure SInv (tr:List Nat)(ops:List Oper)(st:CS):Prop where
 pcs:∀x ∈ st.env,ba ops tr st.env x.g=some x.pc
 uniq:∀x ∈ st.env,st.env.find? (fun y=>y.t==x.t)=some x
 obls:∀x ∈ st.obl,∃y ∈ st.env,y.t=x.t∧y.pc=x.pc∧y.e=x.e∧y.g=x.g
structure Inv (tr:List Nat)(ops:List Oper)(st:CS)(S:List Value)(H:Heap)(T:Raw):Prop extends SInv tr ops st where
 len:S.length=tr.length
 slots:∀(j t:Nat),tr[j]?=some t→kn st.env t=false→S[j]?=some (T t)
 ents:∀x ∈ st.env,AO S H T x
theorem cL:∀{tr:List Nat} {t j:Nat},idxOf tr t=some j→tr[j]?=some t
 | [],t,j,h=>by simp[idxOf]at h
 | x::r,t,j,h=>by
  unfold idxOf at h;split at h
  ·rename_i e;simp at h;subst h;simp[e]
  ·simp only[Option.map_eq_some_iff]at h
   obtain⟨k,hk,rfl⟩:=h;simpa using cL hk
theorem ko:∀{tr:List Nat} {t j:Nat},idxOf tr t=none→tr[j]?≠some t
 | [],t,j,_=>by simp
 | x::r,t,j,h=>by
  unfold idxOf at h;split at h
  ·simp at h
  ·rename_i e
   cases j with
   | zero=>simpa using e
   | succ j=>simp only[Option.map_eq_none_iff]at h;simpa using ko h
theorem iL{env:List Ent}{t:Nat}:kn env t=true↔∃x ∈ env,x.t=t:=by simp[kn]
theorem sY{st:CS}(hI:Inv tr ops st S H T){t:Nat}{x:Ent}(h:iI tr st.env t=some x):x.t=t∧AO S H T x∧ba ops tr st.env x.g=some x.pc:=by
 unfold iI at h;split at h
 ·rename_i y hy
  simp at h;subst h;have hm:=List.mem_of_find?_eq_some hy;have ht:=List.find?_some hy;simp at ht;exact⟨ht,hI.ents _ hm,hI.pcs _ hm⟩
 ·rename_i hy
  simp only[Option.map_eq_some_iff]at h;obtain⟨j,hj,rfl⟩:=h;have hh:kn st.env t=false:=by
   cases hb:kn st.env t with
   | false=>rfl
   | true=>
    obtain⟨x,hx,e⟩:=iL.1 hb;rw[List.find?_eq_none]at hy;exact absurd e (by simpa using hy x hx)
  have:=hI.slots j t (cL hj) hh;refine⟨rfl,⟨fun _=>?_,fun h=>absurd dh h⟩,rfl⟩;simp[ev1,ev,this]
theorem m8{st:CS}(hI:Inv tr ops st S H T){o:Operand}{x:Ent}(h:opE tr st.env o=some x) :
  (aZ S H x.pc→ev1 S H x.e=some (aW T o))∧ba ops tr st.env x.g=some x.pc∧(∀t,bW o=some t→x.t=t∧iI tr st.env t=some x):=by
 cases o<;>simp only[opE]at h
 ·obtain⟨h1,h2,h3⟩:=sY hI h
  rename_i t;refine⟨fun hh=>by rw[h2.1 hh,h1];rfl,h3,fun t' ht=>?_⟩;simp[bW]at ht;subst ht;exact⟨h1,h⟩
 ·split at h
  ·simp at h;subst h;exact⟨fun _=>by simp[ev1,ev,aW],rfl,fun t ht=>by simp[bW]at ht⟩
  ·simp at h
 ·simp at h;subst h;exact⟨fun _=>by simp[ev1,ev,aW],rfl,fun t ht=>by simp[bW]at ht⟩
 ·simp at h;subst h;exact⟨fun _=>by simp[ev1,ev,aW],rfl,fun t ht=>by simp[bW]at ht⟩
theorem nW{st:CS}(hI:Inv tr ops st S H T):∀{xs:List Operand} {es:List Ent},jf tr st.env xs=some es→(∀x ∈ es,aZ S H x.pc)→ev S H (iK es)=some (xs.map (aW T))
 | [],es,h,_=>by simp[jf]at h;subst h;simp[iK,ev]
 | o::xs,es,h,hp=>by
  simp only[jf]at h;split at h
  ·rename_i a ha
   split at h
   ·rename_i l hl
    simp at h;subst h;have h1:=(m8 hI ha).1 (hp a (by simp));have h2:=nW hI hl (fun x hx=>hp x (by simp[hx]));have h3:ev S H a.e=some [aW T o]:=by
     unfold ev1 at h1;split at h1
     ·rename_i v hv;simp at h1;rw[hv,h1]
     ·simp at h1
    simp[iK,ev,h3,h2]
   ·simp at h
  ·simp at h
theorem zn{st:CS}(hI:SInv tr ops st){t:Nat}{x:Ent}(h:iI tr st.env t=some x):ba ops tr st.env x.g=some x.pc:=by
 unfold iI at h;split at h
 ·rename_i y hy
  simp at h;subst h;exact hI.pcs _ (List.mem_of_find?_eq_some hy)
 ·simp only[Option.map_eq_some_iff]at h
  obtain⟨j,hj,rfl⟩:=h;rfl
theorem kP{st:CS}(hI:SInv tr ops st){y:Ent}(hy:y ∈ st.env):iI tr st.env y.t=some y:=by
 unfold iI;rw[hI.uniq y hy]
theorem lG{st:CS}(hI:SInv tr ops st){o:Operand}{x:Ent}(h:opE tr st.env o=some x):ba ops tr st.env x.g=some x.pc:=by
 cases o<;>simp only[opE]at h
 ·exact zn hI h
 ·split at h
  ·simp at h;subst h;rfl
  ·simp at h
 ·simp at h;subst h;rfl
 ·simp at h;subst h;rfl
theorem kK{env:List Ent}{o:Operand}{x:Ent}(h:opE tr env o=some x){t:Nat}(ht:bW o=some t):iI tr env t=some x:=by
 cases o<;>simp[bW]at ht;subst ht;exact h
theorem mE{st:CS}(hI:SInv tr ops st):∀{xs:List Operand} {es:List Ent},jf tr st.env xs=some es→∀x ∈ es,ba ops tr st.env x.g=some x.pc
 | [],es,h,x,hx=>by simp[jf]at h;subst h;simp at hx
 | o::xs,es,h,x,hx=>by
  simp only[jf]at h;split at h
  ·rename_i a ha
   split at h
   ·rename_i l hl
    simp at h;subst h;cases hx with
    | head=>exact lG hI ha
    | tail _ hx=>exact mE hI hl x hx
   ·simp at h
  ·simp at h
theorem ob{env:List Ent}:∀{xs:List Operand} {es:List Ent},jf tr env xs=some es→∀t,t ∈ xs.filterMap bW→∃x ∈ es,iI tr env t=some x
 | [],es,h,t,ht=>by simp at ht
 | o::xs,es,h,t,ht=>by
  simp only[jf]at h;split at h
  ·rename_i a ha
   split at h
   ·rename_i l hl
    simp at h;subst h;simp only[List.filterMap_cons]at ht;split at ht
    ·obtain⟨x,hx,e⟩:=ob hl t ht;exact⟨x,by simp[hx],e⟩
    ·rename_i t' ht'
     cases ht with
     | head=>exact⟨a,by simp,kK ha ht'⟩
     | tail _ ht=>obtain⟨x,hx,e⟩:=ob hl t ht;exact⟨x,by simp[hx],e⟩
   ·simp at h
  ·simp at h
theorem oa:∀{es:List Ent} {x:Ent},x ∈ es→(ev S H (iK es)).isSome=true→(ev S H x.e).isSome=true
 | a::r,x,hx,h=>by
  simp only[iK,ev]at h;split at h
  ·rename_i y hy
   split at h
   ·rename_i z hz
    cases hx with
    | head=>simp[hy]
    | tail _ hx=>exact oa hx (by simp[hz])
   ·simp at h
  ·simp at h
theorem hU{st:CS}(hI:Inv tr ops st S H T){o:Oper}{pc:PC}(h:ba ops tr st.env o.guard=some pc):bO ops T o=true↔aZ S H pc:=by
 unfold ba at h;unfold bO;split at h
 ·rename_i e;simp at h;subst h;simp[e,dh]
 ·rename_i j want e
  split at h
  ·rename_i oj hoj
   split at h
   ·rename_i t ht
    simp only[Option.map_eq_some_iff]at h;obtain⟨x,hx,rfl⟩:=h;obtain⟨h1,h2,_⟩:=sY hI hx;simp only[e,hoj,ht];rw[eS,jF,qK,←h1];by_cases hh:aZ S H x.pc
    ·have:=h2.1 hh
     simp only[hh,true_and,this,Option.some.injEq];split
     ·rename_i b hb;simp[hb]
     ·rename_i hb
      constructor
      ·intro h;simp at h
      ·intro h;exact absurd h (by intro h;exact hb want h)
    ·have:=h2.2 hh
     simp[this,undef,hh]
   ·simp at h
  ·simp at h
theorem oY{st:CS}{g ge:Option (Nat×Bool)}{pc pe:PC}(h:okG g ge=true)(hg:ba ops tr st.env g=some pc)(he:ba ops tr st.env ge=some pe)(hh:aZ S H pc):aZ S H pe:=by
 simp only[okG,Bool.or_eq_true,beq_iff_eq]at h;rcases h with rfl|rfl
 ·simp[ba]at he;subst he;exact dh
 ·rw[hg]at he;cases he;exact hh
def de(S:List Value)(H:Heap)(obl:List Obl):Prop:=∀x ∈ obl,aZ S H x.pc→(ev S H x.e).isSome=true
theorem qq{env:List Ent}{d:Nat}{new:Ent}(hd:new.t=d){t:Nat}(ht:t≠d):iI tr (new::env) t=iI tr env t:=by
 unfold iI;have:(new.t==t)=false:=by simp[hd];exact fun e=>ht e.symm
 rw[List.find?_cons,this]
theorem om{env:List Ent}{d:Nat}{new:Ent}(hd:new.t=d){g:Option (Nat×Bool)}(hg:(match g with|some (j,_)=>(match ops[j]? with|some o=>!(o.dst==some d)|none=>true)|none=>true)=true) :
  ba ops tr (new::env) g=ba ops tr env g:=by
 unfold ba;cases g with
 | none=>rfl
 | some q=>
  obtain⟨j,want⟩:=q;simp only at hg ⊢;cases ho:ops[j]? with
  | none=>rfl
  | some o=>
   rw[ho]at hg;simp only at hg ⊢;cases hdst:o.dst with
   | none=>rfl
   | some t=>
    rw[hdst]at hg;simp only;rw[qq hd (by simpa using hg)]
theorem SInv.push{st:CS}(hI:SInv tr ops st){d:Nat}{e:E}{pc:PC}{g:Option (Nat×Bool)}{obl:List Obl}(hn:kn st.env d=false)(hgd:kW ops (⟨d,.nil,[],g⟩::st.env) d=true)
  (hpc:ba ops tr st.env g=some pc) (hsub:∀x ∈ obl,x ∈ st.obl):SInv tr ops { st with env:=⟨d,e,pc,g⟩::st.env,obl:=⟨d,pc,e,g⟩::obl }:=by
 simp only[kW,List.all_cons,Bool.and_eq_true]at hgd;obtain⟨hg1,hg2⟩:=hgd;have hne:∀y ∈ st.env,y.t≠d:=by
  intro y hy e;have:kn st.env d=true:=iL.2 ⟨y,hy,e⟩;rw[hn]at this;simp at this
 refine⟨?_,?_,?_⟩
 ·intro x hx
  cases hx with
  | head=>simp only;rw[om rfl hg1];exact hpc
  | tail _ hx=>
   simp only;rw[om rfl (List.all_eq_true.1 hg2 x hx)];exact hI.pcs x hx
 ·intro x hx
  simp only;cases hx with
  | head=>simp
  | tail _ hx=>
   have:(d==x.t)=false:=by simp;exact fun e=>hne x hx e.symm
   rw[List.find?_cons];simp only[this];exact hI.uniq x hx
 ·intro x hx
  cases hx with
  | head=>exact⟨_,List.mem_cons_self ..,rfl,rfl,rfl,rfl⟩
  | tail _ hx=>
   obtain⟨y,hy,r⟩:=hI.obls x (hsub x hx);exact⟨y,List.mem_cons_of_mem _ hy,r⟩
theorem gC{obl:List Obl}{g:Option (Nat×Bool)}{ts:List Nat}:∀x ∈ rest obl g ts,x ∈ obl:=fun _ hx=>(List.mem_filter.1 hx).1
theorem jH{obl:List Obl}(g:Option (Nat×Bool))(ts:List Nat){x:Obl}(hx:x ∈ obl):x ∈ rest obl g ts∨(x.g=g∧x.t ∈ ts):=by
 by_cases h:x.g=g∧x.t ∈ ts
 ·exact .inr h
 ·left
  refine List.mem_filter.2 ⟨hx,?_⟩;simp;rcases Classical.em (x.g=g)with e|e
  ·exact .inr (fun hm=>h ⟨e,hm⟩)
  ·exact .inl e
theorem qC{st:CS}(hI:SInv tr ops st){g:Option (Nat×Bool)}{pc:PC}{xs:List Operand}{es:List Ent}(hpc:ba ops tr st.env g=some pc)(hes:jf tr st.env xs=some es)
  (hall:aZ S H pc→(ev S H (iK es)).isSome=true) {x:Obl} (hx:x ∈ st.obl) (hg:x.g=g) (ht:x.t ∈ xs.filterMap bW) (hh:aZ S H x.pc):(ev S H x.e).isSome=true:=by
 obtain⟨y,hy,e1,e2,e3,e4⟩:=hI.obls x hx;obtain⟨z,hz,hl⟩:=ob hes x.t ht;rw[←e1,kP hI hy]at hl;cases hl;have:pc=x.pc:=by
  have h1:=hI.pcs y hy;rw[e4,hg,hpc]at h1;simp at h1;rw[h1,e2]
 rw[←e3];exact oa hz (hall (by rw[this];exact hh))
theorem eU{e:E}{v:Value}(h:ev1 S H e=some v):ev S H e=some [v]:=by
 unfold ev1 at h;split at h
 ·rename_i u hu;simp at h;rw[hu,h]
 ·simp at h
theorem eB{e:E}{v:Value}(h:ev S H e=some [v]):ev1 S H e=some v:=by simp[ev1,h]
theorem tY{l:LOp}{es:List Ent}(h:(ev S H (nF l es)).isSome=true):(ev S H (iK es)).isSome=true:=by
 unfold nF at h;split at h
 ·rename_i x
  simp only[iK,ev];cases hx:ev S H x.e with
  | none=>simp[hx]at h
  | some y=>rfl
 ·simp only[ev]at h
  split at h
  ·rename_i vs hvs;simp[hvs]
  ·simp at h
theorem zC{l:LOp}{es:List Ent}{vs:List Value}(hl:l≠.pk)(h:ev S H (iK es)=some vs)(hlen:vs.length=es.length)(hs:(ev S H (nF l es)).isSome=true):∃v,aG l vs H=some v∧ev1 S H (nF l es)=some v:=by
 unfold nF at hs ⊢;split
 ·rename_i x
  simp only[iK,ev]at h;split at h
  ·rename_i y hy
   simp at h;subst h;simp at hlen;obtain⟨v,rfl⟩:=List.length_eq_one_iff.1 hlen;exact⟨v,rfl,eB hy⟩
  ·simp at h
 ·rename_i hne
  have hs':(ev S H (.node l (iK es))).isSome=true:=by
   split at hs
   ·exact absurd rfl (hne _ rfl)
   ·exact hs
  simp only[ev,h]at hs';split at hs'
  ·rename_i v hv
   refine⟨v,hv,?_⟩;simp[ev1,ev,h,hv]
  ·simp at hs'
theorem Inv.push{st:CS}(hI:Inv tr ops st S H T){d:Nat}{e:E}{pc:PC}{g:Option (Nat×Bool)}{obl:List Obl}{v:Value}(hn:kn st.env d=false)(hgd:kW ops (⟨d,.nil,[],g⟩::st.env) d=true)
  (hpc:ba ops tr st.env g=some pc) (hsub:∀x ∈ obl,x ∈ st.obl) (hv:(aZ S H pc→ev1 S H e=some v)∧(¬ aZ S H pc→v=undef)) :
  Inv tr ops { st with env:=⟨d,e,pc,g⟩::st.env,obl:=⟨d,pc,e,g⟩::obl } S H (eN T (some d) v):=by
 have hne:∀y ∈ st.env,y.t≠d:=by
  intro y hy e;have:kn st.env d=true:=iL.2 ⟨y,hy,e⟩;rw[hn]at this;simp at this
 refine⟨SInv.push hI.toSInv hn hgd hpc hsub,hI.len,?_,?_⟩
 ·intro j t ht hh
  have h1:t≠d:=by
   intro e;have:kn (⟨d,‹E›,pc,g⟩::st.env) t=true:=iL.2 ⟨_,List.mem_cons_self ..,e.symm⟩;simp only at hh;rw[this]at hh;simp at hh
  have h2:kn st.env t=false:=by
   cases hb:kn st.env t with
   | false=>rfl
   | true=>
    obtain⟨x,hx,e⟩:=iL.1 hb;have:kn (⟨d,‹E›,pc,g⟩::st.env) t=true:=iL.2 ⟨x,List.mem_cons_of_mem _ hx,e⟩;simp only at hh;rw[this]at hh;simp at hh
  rw[hI.slots j t ht h2];simp[eN,h1]
 ·intro x hx
  cases hx with
  | head=>exact⟨fun h=>by simp[eN,hv.1 h],fun h=>by simp[eN,hv.2 h]⟩
  | tail _ hx=>
   have h1:=hI.ents x hx;have h2:eN T (some d) v x.t=T x.t:=by simp[eN,hne x hx]
   unfold AO at h1 ⊢;rw[h2];exact h1
theorem rN{env:List Ent}:∀{xs:List Operand} {es:List Ent},jf tr env xs=some es→es.length=xs.length
 | [],es,h=>by simp[jf]at h;subst h;rfl
 | o::xs,es,h=>by
  simp only[jf]at h;split at h
  ·split at h
   ·rename_i l hl;simp at h;subst h;simp[rN hl]
   ·simp at h
  ·simp at h
theorem FL{env:List Ent}{xc xa xb:Operand}{c a b:Ent}(h:jf tr env [xc,xa,xb]=some [c,a,b]):opE tr env xc=some c∧opE tr env xa=some a∧opE tr env xb=some b:=by
 simp only[jf]at h;cases h1:opE tr env xc<;>cases h2:opE tr env xa<;>cases h3:opE tr env xb<;>simp_all
theorem rq{st:CS}{g:Option (Nat×Bool)}{xc:Operand}{c x:Ent}{side:Bool}{pc:PC}(h:pN ops g (bW xc) side x=true)(hc:opE tr st.env xc=some c)
  (hg:ba ops tr st.env g=some pc) (hx:ba ops tr st.env x.g=some x.pc) (hh:aZ S H pc) (hcp:aZ S H c.pc) (hv:ev1 S H c.e=some (.bool side)):aZ S H x.pc:=by
 simp only[pN,Bool.or_eq_true]at h;rcases h with h|h
 ·exact oY h hg hx hh
 ·split at h
  ·rename_i j want hxg
   simp only[Bool.and_eq_true,beq_iff_eq]at h;obtain⟨rfl,h⟩:=h;split at h
   ·rename_i oj hoj
    simp only[Bool.and_eq_true,beq_iff_eq]at h;obtain⟨h1,h2⟩:=h;obtain⟨t,ht⟩:=Option.isSome_iff_exists.1 h2;rw[hxg]at hx;simp only[ba,hoj]at hx;rw[h1,ht]at hx;simp only[kK hc ht,Option.map_some,Option.some.injEq]at hx;rw[←hx,eS,jF];exact⟨hcp,hv⟩
   ·simp at h
  ·simp at h
theorem lZ{raised:cG}{st st1:CS}{o:Oper}{l:LOp}{xs:List Operand}(h:mW P tr ops raised st o=some st1)(hr:rsv P raised o=(.l l,xs)) :
  st1.out=st.out∧(SInv tr ops st→SInv tr ops st1∧∀S H,de S H st1.obl→de S H st.obl) ∧
  ∀S H T,Inv tr ops st S H T→de S H st1.obl→∃T1,bP P callA lo ops raised o T H=some (T1,H)∧Inv tr ops st1 S H T1:=by
 unfold mW at h;rw[hr]at h;cases hpc:ba ops tr st.env o.guard with
 | none=>rw[hpc]at h;simp at h
 | some pc=>
 rw[hpc]at h;simp only at h;cases hd:o.dst with
 | none=>rw[hd]at h;simp at h
 | some d=>
 rw[hd]at h;simp only at h;split at h
 ·simp at h
 ·rename_i hcond
  simp only[Bool.or_eq_true,Bool.not_eq_true',not_or,Bool.not_eq_true,Bool.not_eq_false]at hcond;obtain⟨hn,hgd⟩:=hcond;split at h
  ·
   rename_i xc xa xb c a b hes;split at h
   ·rename_i hok
    simp only[Bool.and_eq_true]at hok;obtain⟨⟨hok1,hok2⟩,hok3⟩:=hok;simp only[Option.some.injEq]at h;obtain⟨hc,ha,hb⟩:=FL hes;have hsub:∀x ∈ (if okG o.guard b.g || !(c.g==o.guard) then(if okG o.guard a.g || !(c.g==o.guard) then rest st.obl o.guard ((bW xc).toList) else rest (rest st.obl o.guard ((bW xc).toList)) a.g ((bW xa).toList))
      else rest (if okG o.guard a.g || !(c.g==o.guard) then rest st.obl o.guard ((bW xc).toList) else rest (rest st.obl o.guard ((bW xc).toList)) a.g ((bW xa).toList)) b.g ((bW xb).toList)),x ∈ st.obl:=by
     intro x hx;split at hx
     ·split at hx
      ·exact gC x hx
      ·exact gC x (gC x hx)
     ·have hx:=gC x hx
      split at hx
      ·exact gC x hx
      ·exact gC x (gC x hx)
    subst h;refine⟨rfl,fun hI=>⟨SInv.push hI hn hgd hpc hsub,fun S H hob x hx hh=>?_⟩,fun S H T hI hob=>?_⟩
    ·
     have hnew:aZ S H pc→(ev S H (.pick c.e a.e b.e)).isSome=true:=fun hp=>hob ⟨d,pc,.pick c.e a.e b.e,o.guard⟩ (List.mem_cons_self ..) hp;have hcsome:aZ S H pc→∃bv,ev S H c.e=some [.bool bv]∧(if bv then(ev S H a.e).isSome=true else(ev S H b.e).isSome=true):=by
      intro hp;have:=hnew hp;simp only[ev]at this;split at this
      ·rename_i hv;exact⟨true,hv,by simpa using this⟩
      ·rename_i hv;exact⟨false,hv,by simpa using this⟩
      ·simp at this
     have side:∀(sd:Bool) (xo:Operand) (z:Ent),opE tr st.env xo=some z→pN ops o.guard (bW xc) sd z=true→okG o.guard z.g=false→c.g=o.guard→x.g=z.g→x.t ∈ (bW xo).toList →
       (∀bv,ev S H c.e=some [.bool bv]→(if bv then(ev S H a.e).isSome=true else(ev S H b.e).isSome=true)→bv=sd→(ev S H z.e).isSome=true)→(ev S H x.e).isSome=true:=by
      intro sd xo z hz hpg hnok hcg hxg hxt fin;obtain⟨y,hy,e1,e2,e3,e4⟩:=hI.obls x hx;have ht:bW xo=some x.t:=by
       cases hto:bW xo with
       | none=>rw[hto]at hxt;simp at hxt
       | some t=>rw[hto]at hxt;simp at hxt;rw[hxt]
      have hl:=kK hz ht;rw[←e1,kP hI hy]at hl;cases hl;simp only[pN,hnok,Bool.false_or]at hpg;split at hpg
      ·rename_i j want hyg
       simp only[Bool.and_eq_true,beq_iff_eq]at hpg;obtain⟨rfl,hpg⟩:=hpg;split at hpg
       ·rename_i oj hoj
        simp only[Bool.and_eq_true,beq_iff_eq]at hpg;obtain⟨h1,h2⟩:=hpg;obtain⟨t,ht2⟩:=Option.isSome_iff_exists.1 h2;have hyp:=hI.pcs z hy;rw[hyg]at hyp;simp only[ba,hoj]at hyp;rw[h1,ht2]at hyp;simp only[kK hc ht2,Option.map_some,Option.some.injEq]at hyp;rw[←e2,←hyp,eS,jF]at hh;have hcpc:=lG hI hc;rw[hcg,hpc]at hcpc;simp at hcpc;obtain⟨bv,hb1,hb2⟩:=hcsome (by rw[hcpc];exact hh.1);have hb3:=eB hb1;rw[hh.2]at hb3;simp at hb3;rw[←e3];exact fin bv hb1 hb2 hb3.symm
       ·simp at hpg
      ·simp at hpg
     rcases jH o.guard ((bW xc).toList) hx with h1|⟨h1,h2⟩
     ·
      by_cases hA:okG o.guard a.g || !(c.g==o.guard)
      ·by_cases hB:okG o.guard b.g || !(c.g==o.guard)
       ·exact hob x (List.mem_cons_of_mem _ (by simp only[hA,hB,if_true];exact h1)) hh
       ·rcases jH b.g ((bW xb).toList) h1 with h3|⟨h3,h4⟩
        ·exact hob x (List.mem_cons_of_mem _ (by simp only[hA,hB,if_true];exact h3)) hh
        ·simp only[Bool.or_eq_true,not_or,Bool.not_eq_true,Bool.not_eq_eq_eq_not,Bool.not_true]at hB
         exact side false xb b hb hok3 hB.1 (by simpa using hB.2) h3 h4 (fun bv _ hz e=>by subst e;simpa using hz)
      ·rcases jH a.g ((bW xa).toList) h1 with h3|⟨h3,h4⟩
       ·by_cases hB:okG o.guard b.g || !(c.g==o.guard)
        ·exact hob x (List.mem_cons_of_mem _ (by simp only[hA,hB,if_true];exact h3)) hh
        ·rcases jH b.g ((bW xb).toList) h3 with h5|⟨h5,h6⟩
         ·exact hob x (List.mem_cons_of_mem _ (by simp only[hA,hB];exact h5)) hh
         ·simp only[Bool.or_eq_true,not_or,Bool.not_eq_true,Bool.not_eq_eq_eq_not,Bool.not_true]at hB
          exact side false xb b hb hok3 hB.1 (by simpa using hB.2) h5 h6 (fun bv _ hz e=>by subst e;simpa using hz)
       ·simp only[Bool.or_eq_true,not_or,Bool.not_eq_true,Bool.not_eq_eq_eq_not,Bool.not_true]at hA
        exact side true xa a ha hok2 hA.1 (by simpa using hA.2) h3 h4 (fun bv _ hz e=>by subst e;simpa using hz)
     ·obtain⟨y,hy,e1,e2,e3,e4⟩:=hI.obls x hx
      have ht:bW xc=some x.t:=by
       cases hto:bW xc with
       | none=>rw[hto]at h2;simp at h2
       | some t=>rw[hto]at h2;simp at h2;rw[h2]
      have hl:=kK hc ht;rw[←e1,kP hI hy]at hl;cases hl;have hyp:=hI.pcs c hy;rw[e4,h1,hpc]at hyp;simp at hyp;obtain⟨bv,hb1,_⟩:=hcsome (by rw[hyp,e2];exact hh);rw[←e3,hb1];rfl
    ·
     have hnew:aZ S H pc→(ev S H (.pick c.e a.e b.e)).isSome=true:=fun hp=>hob ⟨d,pc,.pick c.e a.e b.e,o.guard⟩ (List.mem_cons_self ..) hp;by_cases hp:aZ S H pc
     ·have hcp:=oY hok1 hpc (lG hI.toSInv hc) hp
      have hcv:=(m8 hI hc).1 hcp;have hs:=hnew hp;simp only[ev,eU hcv]at hs;have hbool:∃bv,aW T xc=.bool bv:=by
       split at hs
       ·rename_i e;simp at e;exact⟨true,e⟩
       ·rename_i e;simp at e;exact⟨false,e⟩
       ·simp at hs
      obtain⟨bv,hbv⟩:=hbool;rw[hbv]at hcv;have val:ev1 S H (.pick c.e a.e b.e)=some (if bv then aW T xa else aW T xb):=by
       have hev:=eU hcv;cases bv
       ·have:=(m8 hI hb).1 (rq hok3 hc hpc (lG hI.toSInv hb) hp hcp hcv)
        simp only[ev1,ev,hev,eU this];rfl
       ·have:=(m8 hI ha).1 (rq hok2 hc hpc (lG hI.toSInv ha) hp hcp hcv)
        simp only[ev1,ev,hev,eU this];rfl
      refine⟨eN T (some d) (if bv then aW T xa else aW T xb),?_,Inv.push hI hn hgd hpc hsub ⟨fun _=>val,fun h=>absurd hp h⟩⟩;have hw:=(hU hI hpc).2 hp;simp only[bP,hw,if_true,hr,List.map_cons,List.map_nil,hbv,aG,hd]
     ·have hw:bO ops T o=false:=by
       cases hb:bO ops T o with
       | false=>rfl
       | true=>exact absurd ((hU hI hpc).1 hb) hp
      exact⟨eN T (some d) undef,by simp[bP,hw,hd],Inv.push hI hn hgd hpc hsub ⟨fun h=>absurd h hp,fun _=>rfl⟩⟩
   ·simp at h
  ·simp at h
  ·rename_i l xs l0 xs0 oes es hnpk hnp1 hes
   split at h
   ·rename_i hok
    simp only[Option.some.injEq]at h;have hsub:∀x ∈ rest st.obl o.guard (xs.filterMap bW),x ∈ st.obl:=gC;subst h;refine⟨rfl,fun hI=>⟨SInv.push hI hn hgd hpc hsub,fun S H hob x hx hh=>?_⟩,fun S H T hI hob=>?_⟩
    ·rcases jH o.guard (xs.filterMap bW) hx with h1|⟨h1,h2⟩
     ·exact hob x (List.mem_cons_of_mem _ h1) hh
     ·exact qC hI hpc hes (fun hp=>tY (hob ⟨d,pc,nF l es,o.guard⟩ (List.mem_cons_self ..) hp)) hx h1 h2 hh
    ·by_cases hp:aZ S H pc
     ·have hall:∀x ∈ es,aZ S H x.pc:=fun x hx=>oY (List.all_eq_true.1 hok x hx) hpc (mE hI.toSInv hes x hx) hp
      have hev:=nW hI hes hall;have hlk:l≠.pk:=by
       intro e;subst e;exact hnpk rfl
      obtain⟨v,hv1,hv2⟩:=zC hlk hev (by simp[rN hes]) (hob ⟨d,pc,nF l es,o.guard⟩ (List.mem_cons_self ..) hp);refine⟨eN T (some d) v,?_,Inv.push hI hn hgd hpc hsub ⟨fun _=>hv2,fun h=>absurd hp h⟩⟩;have hw:=(hU hI hpc).2 hp;simp only[bP,hw,if_true,hr,hv1,hd]
     ·have hw:bO ops T o=false:=by
       cases hb:bO ops T o with
       | false=>rfl
       | true=>exact absurd ((hU hI hpc).1 hb) hp
      exact⟨eN T (some d) undef,by simp[bP,hw,hd],Inv.push hI hn hgd hpc hsub ⟨fun h=>absurd h hp,fun _=>rfl⟩⟩
   ·simp at h
  ·simp at h
end
section
variable {P:Program}{callA:CallR}{lo n:Nat}{tr:List Nat}{ops:List Oper}{S:List Value}{H:Heap}{T:Raw}
def Nd(tr:List Nat):Prop:=∀(i j t:Nat),tr[i]?=some t→tr[j]?=some t→i=j
theorem k0{els e:E}:∀{pc:PC} {v:Value},ev1 S H (iu els pc e)=some v→(aZ S H pc→ev1 S H e=some v)∧(¬ aZ S H pc→ev1 S H els=some v)
 | [],v,h=>⟨fun _=>h,fun hh=>absurd dh hh⟩
 | (c,want)::r,v,h=>by
  have hsplit:aZ S H ((c,want)::r)↔ev1 S H c=some (.bool want)∧aZ S H r:=by
   rw[←jF c want,←eS];rfl
  cases want
  ·simp only[iu]at h
   have h':(match ev S H c with|some [.bool true]=>ev S H els|some [.bool false]=>ev S H (iu els r e)|_=>none)=some [v]:=eU h;split at h'
   ·rename_i hc
    have:¬ aZ S H ((c,false)::r):=by rw[hsplit];intro hh;have:=eB hc;rw[hh.1]at this;simp at this
    exact⟨fun hh=>absurd hh this,fun _=>eB h'⟩
   ·rename_i hc
    obtain⟨h1,h2⟩:=k0 (eB h');have e:aZ S H ((c,false)::r)↔aZ S H r:=by rw[hsplit];exact⟨fun hh=>hh.2,fun hh=>⟨eB hc,hh⟩⟩
    rw[e];exact⟨h1,h2⟩
   ·simp at h'
  ·simp only[iu]at h
   have h':(match ev S H c with|some [.bool true]=>ev S H (iu els r e)|some [.bool false]=>ev S H els|_=>none)=some [v]:=eU h;split at h'
   ·rename_i hc
    obtain⟨h1,h2⟩:=k0 (eB h');have e:aZ S H ((c,true)::r)↔aZ S H r:=by rw[hsplit];exact⟨fun hh=>hh.2,fun hh=>⟨eB hc,hh⟩⟩
    rw[e];exact⟨h1,h2⟩
   ·rename_i hc
    have:¬ aZ S H ((c,true)::r):=by rw[hsplit];intro hh;have:=eB hc;rw[hh.1]at this;simp at this
    exact⟨fun hh=>absurd hh this,fun _=>eB h'⟩
   ·simp at h'
theorem oW{els e:E}:∀{pc:PC},(ev S H (iu els pc e)).isSome=true→aZ S H pc→(ev S H e).isSome=true
 | [],h,_=>h
 | (c,want)::r,h,hh=>by
  have hsplit:aZ S H ((c,want)::r)↔ev1 S H c=some (.bool want)∧aZ S H r:=by
   rw[←jF c want,←eS];rfl
  rw[hsplit]at hh;have hc:=eU hh.1;cases want<;>simp only[iu,ev,hc]at h<;>exact oW h hh.2
theorem kz:∀{l:List (Nat×E)} {vs:List (Nat×Value)},evSets S H l=some vs→(∀q ∈ l,∃v,ev1 S H q.2=some v∧(q.1,v) ∈ vs)∧∀q ∈ vs,∃e,(q.1,e) ∈ l∧ev1 S H e=some q.2
 | [],vs,h=>by simp[evSets]at h;subst h;simp
 | (j,e)::r,vs,h=>by
  simp only[evSets]at h;split at h
  ·rename_i v hv
   split at h
   ·rename_i l hl
    simp at h;subst h;obtain⟨h1,h2⟩:=kz hl;refine⟨fun q hq=>?_,fun q hq=>?_⟩
    ·cases hq with
     | head=>exact⟨v,hv,by simp⟩
     | tail _ hq=>obtain⟨u,a,b⟩:=h1 q hq;exact⟨u,a,by simp[b]⟩
    ·cases hq with
     | head=>exact⟨e,by simp,hv⟩
     | tail _ hq=>obtain⟨u,a,b⟩:=h2 q hq;exact⟨u,by simp[a],b⟩
   ·simp at h
  ·simp at h
theorem p7:∀{l:List E},evChk S H l=true→∀e ∈ l,(ev S H e).isSome=true
 | [],_,e,he=>by simp at he
 | a::r,h,e,he=>by
  simp only[evChk,Bool.and_eq_true]at h;cases he with
  | head=>exact h.1
  | tail _ he=>exact p7 h.2 e he
theorem iJ:∀(vs:List (Nat×Value)) (S:List Value),(setAll S vs).length=S.length
 | [],_=>rfl
 | (j,v)::r,S=>by rw[setAll,iJ r];simp
theorem oN{j:Nat}{u:Value}:∀(vs:List (Nat×Value)) (S:List Value),j<S.length→(∀q ∈ vs,q.1=j→q.2=u)→((∃q ∈ vs,q.1=j)∨S[j]?=some u)→(setAll S vs)[j]?=some u
 | [],S,_,_,h=>by
  rcases h with ⟨q,hq,_⟩|h
  ·simp at hq
  ·exact h
 | (i,v)::r,S,hj,hall,h=>by
  rw[setAll];refine oN r (S.set i v) (by simpa using hj) (fun q hq=>hall q (by simp[hq])) ?_;by_cases hi:i=j
  ·subst hi
   right;have:=hall (i,v) (by simp) rfl;simp at this;simp[this,hj]
  ·rcases h with ⟨q,hq,e⟩|h
   ·cases hq with
    | head=>exact absurd e hi
    | tail _ hq=>exact .inl ⟨q,hq,e⟩
   ·right;rw[List.getElem?_set_ne hi];exact h
theorem tK{env:List Ent}{j:Nat}{e:E}(h:(j,e) ∈ fR tr env):∃x ∈ env,idxOf tr x.t=some j∧e=iu (.cst undef) x.pc x.e:=by
 simp only[fR,List.mem_filterMap,Option.map_eq_some_iff,Prod.mk.injEq]at h;obtain⟨x,hx,k,hk,rfl,rfl⟩:=h;exact⟨x,hx,hk,rfl⟩
theorem jM{env:List Ent}{x:Ent}(hx:x ∈ env){j:Nat}(hj:idxOf tr x.t=some j):(j,iu (.cst undef) x.pc x.e) ∈ fR tr env:=by
 simp only[fR,List.mem_filterMap];exact⟨x,hx,by simp[hj]⟩
theorem iZ(hnd:Nd tr){st:CS}(hI:Inv tr ops st S H T){vs:List (Nat×Value)}(h:evSets S H (fR tr st.env)=some vs){j t:Nat}(ht:tr[j]?=some t):(setAll S vs)[j]?=some (T t):=by
 obtain⟨h1,h2⟩:=kz h;have hj:j<S.length:=by rw[hI.len];exact(List.getElem?_eq_some_iff.1 ht).1
 refine oN vs S hj (fun q hq e=>?_) ?_
 ·obtain⟨e',he,hv⟩:=h2 q hq
  obtain⟨x,hx,hi,rfl⟩:=tK he;have hxt:x.t=t:=by
   have:=cL hi;rw[e,ht]at this;simpa using this.symm
  obtain⟨a,b⟩:=k0 hv;have hent:=hI.ents x hx;by_cases hp:aZ S H x.pc
  ·have:=hent.1 hp;rw[a hp]at this;simp at this;rw[this,hxt]
  ·have:=b hp;simp[ev1,ev]at this;rw[←this,←hxt];exact(hent.2 hp).symm
 ·cases hb:kn st.env t with
  | false=>exact .inr (hI.slots j t ht hb)
  | true=>
   left;obtain⟨x,hx,e⟩:=iL.1 hb;cases hi:idxOf tr x.t with
   | none=>exact absurd ht (by rw[←e];exact ko hi)
   | some k=>
    have hk:k=j:=hnd k j t (by rw[←e];exact cL hi) ht;obtain⟨v,_,hv⟩:=h1 _ (jM hx hi);exact⟨_,hv,hk⟩
theorem qB{st:CS}(hI:SInv tr ops st){vs:List (Nat×Value)}(h:evSets S H (fR tr st.env)=some vs){x:Obl}(hx:x ∈ st.obl)(hi:(idxOf tr x.t).isSome=true)(hh:aZ S H x.pc):(ev S H x.e).isSome=true:=by
 obtain⟨y,hy,e1,e2,e3,e4⟩:=hI.obls x hx;obtain⟨j,hj⟩:=Option.isSome_iff_exists.1 hi;rw[←e1]at hj;obtain⟨v,hv,_⟩:=(kz h).1 _ (jM hy hj);have:=(k0 hv).1 (by rw[e2];exact hh);rw[←e3,eU this];rfl
theorem qv{obl:List Obl}(h:evChk S H (wg obl)=true){x:Obl}(hx:x ∈ obl)(hh:aZ S H x.pc):(ev S H x.e).isSome=true:=
 oW (p7 h _ (List.mem_map.2 ⟨x,hx,rfl⟩)) hh
def dQ:Stm→Bool
 | .sets _ _ | .hv .. | .dist _ _=>true
 | _=>false
def b8(callA:CallR)(lo n:Nat):List Stm→List Value→Heap→Option (List Value×Heap)
 | [],S,H=>some (S,H)
 | s::r,S,H=>match exec callA lo n s S H with
  | some (.normal,S',H')=>b8 callA lo n r S' H'
  | _=>none
theorem jL(hnd:Nd tr){raised:cG}{st st1:CS}{o:Oper}{h:HOp}{xs:List Operand}(hc:mW P tr ops raised st o=some st1)(hr:rsv P raised o=(.h h,xs)) :
  ∃s,st1.out=s::st.out∧st1.env=[]∧st1.obl=[]∧dQ s=true ∧
   (SInv tr ops st→∀S H r,exec callA lo n s S H=some r→de S H st.obl) ∧
   (∀S H T S' H',Inv tr ops st S H T→exec callA lo n s S H=some (.normal,S',H')→∃T',bP P callA.ret lo ops raised o T H=some (T',H')∧Inv tr ops st1 S' H' T') ∧
   ∀S H T j S' H',Inv tr ops st S H T→exec callA lo n s S H=some (.exit j,S',H')→∃p S1,S'=p::S1∧j=bF∧S1.length=tr.length∧(∀(j t:Nat),tr[j]?=some t→S1[j]?=some (T t))∧bO ops T o=true∧cQ callA lo h (xs.map (aW T)) H=some (p,H'):=by
 unfold mW at hc;rw[hr]at hc;cases hpc:ba ops tr st.env o.guard with
 | none=>rw[hpc]at hc;simp at hc
 | some pc=>
 rw[hpc]at hc;simp only at hc;split at hc
 ·rename_i es hes
  split at hc
  ·rename_i hok
   simp only[Option.some.injEq]at hc;subst hc;refine⟨_,rfl,rfl,rfl,rfl,fun hI S H r hx=>?_,fun S H T S' H' hI hx=>?_,fun S H T j S' H' hI hx=>?_⟩
   ·intro x hxo hh
    simp only[exec]at hx;split at hx
    ·rename_i vs hvs
     split at hx
     ·rename_i hchk
      by_cases hi:(idxOf tr x.t).isSome=true
      ·exact qB hI hvs hxo hi hh
      ·have hx1:x ∈ st.obl.filter fun x=>!(idxOf tr x.t).isSome:=List.mem_filter.2 ⟨hxo,by simpa using hi⟩
       rcases jH o.guard (xs.filterMap bW) hx1 with h1|⟨h1,h2⟩
       ·exact qv hchk h1 hh
       ·refine qC hI hpc hes (fun hp=>?_) hxo h1 h2 hh
        rw[show holds S H pc=some true from hp]at hx;simp only at hx;split at hx
        ·rename_i ys hys;simp[hys]
        ·simp at hx
     ·simp at hx
    ·simp at hx
   ·simp only[exec]at hx
    split at hx
    ·rename_i vs hvs
     split at hx
     ·
      have slots:∀(v:Value) (S2:List Value),S2=(match o.dst.bind (idxOf tr)with|some d=>(setAll S vs).set d v|none=>setAll S vs)→Inv tr ops { out:=(Stm.hv (fR tr st.env) (wg (rest (st.obl.filter fun x=>!(idxOf tr x.t).isSome) o.guard (xs.filterMap bW))) pc (o.dst.bind (idxOf tr)) h (iK es))::st.out,env:=[],obl:=[] } S2 H' (eN T o.dst v):=by
       intro v S2 hS2;refine⟨⟨by simp,by simp,by simp⟩,?_,?_,by simp⟩
       ·rw[hS2];split<;>simp[iJ,hI.len]
       ·intro j t ht _
        have hj:j<(setAll S vs).length:=by rw[iJ,hI.len];exact(List.getElem?_eq_some_iff.1 ht).1
        have hf:=iZ hnd hI hvs ht;rw[hS2];cases hd:o.dst with
        | none=>simp[eN,hf]
        | some d=>
         simp only[Option.bind_some];cases hi:idxOf tr d with
         | none=>
          have:t≠d:=fun e=>ko hi (by rw[←e];exact ht);simp[eN,this,hf]
         | some k=>
          simp only;by_cases hkj:k=j
          ·subst hkj
           have:=cL hi;rw[ht]at this;simp at this;subst this;simp[eN,hj]
          ·have:t≠d:=by
            intro e;subst e;exact hkj (hnd k j _ (cL hi) ht)
           rw[List.getElem?_set_ne hkj,hf];simp[eN,this]
      split at hx
      ·rename_i hp
       have hall:∀x ∈ es,aZ S H x.pc:=fun x hx=>oY (List.all_eq_true.1 hok x hx) hpc (mE hI.toSInv hes x hx) hp;rw[nW hI hes hall]at hx;simp only at hx;split at hx
       ·rename_i v H1 hsem
        simp only[Option.some.injEq,Prod.mk.injEq,true_and]at hx;obtain⟨rfl,rfl⟩:=hx;refine⟨eN T o.dst v,?_,slots v _ rfl⟩;have hw:=(hU hI hpc).2 hp;simp only[bP,hw,if_true,hr,hsem]
       ·split at hx
        ·simp at hx
        ·simp at hx
      ·rename_i hp
       simp only[Option.some.injEq,Prod.mk.injEq,true_and]at hx;obtain⟨rfl,rfl⟩:=hx;have hnp:¬ aZ S H pc:=by unfold aZ;rw[hp];simp
       have hw:bO ops T o=false:=by
        cases hb:bO ops T o with
        | false=>rfl
        | true=>exact absurd ((hU hI hpc).1 hb) hnp
       exact⟨eN T o.dst undef,by simp[bP,hw],slots undef _ rfl⟩
      ·simp at hx
     ·simp at hx
    ·simp at hx
   ·simp only[exec]at hx
    split at hx
    ·rename_i vs hvs
     split at hx
     ·split at hx
      ·rename_i hp
       have hall:∀x ∈ es,aZ S H x.pc:=fun x hx=>oY (List.all_eq_true.1 hok x hx) hpc (mE hI.toSInv hes x hx) hp;rw[nW hI hes hall]at hx;simp only at hx;split at hx
       ·simp at hx
       ·split at hx
        ·rename_i v H1 hsem
         simp only[Option.some.injEq,Prod.mk.injEq]at hx;obtain⟨hj,rfl,rfl⟩:=hx;cases hj;refine⟨v,_,rfl,rfl,by rw[iJ];exact hI.len,fun j t ht=>iZ hnd hI hvs ht,(hU hI hpc).2 hp,hsem⟩
        ·simp at hx
      ·simp at hx
      ·simp at hx
     ·simp at hx
    ·simp at hx
  ·simp at hc
 ·simp at hc
def br(callA:CallR)(lo n:Nat):List Stm→List Value→Heap→Option (Value×List Value×Heap)
 | [],_,_=>none
 | s::r,S,H=>match exec callA lo n s S H with
  | some (.normal,S',H')=>br callA lo n r S' H'
  | some (.exit j,p::S',H')=>if j=bF then some (p,S',H') else none
  | _=>none
theorem fq(hnd:Nd tr){raised:Nat→cG}:∀(l:List Nat) (st st':CS),dR P tr ops raised l st=some st'→∃R,st'.out=R++st.out∧(∀s ∈ R,dQ s=true) ∧
  (SInv tr ops st→SInv tr ops st') ∧
  (SInv tr ops st→∀S H (fin:List Value→Heap→Prop),(∀S1 H1,fin S1 H1→de S1 H1 st'.obl)→(∃S1 H1,b8 callA lo n R.reverse S H=some (S1,H1)∧fin S1 H1)→de S H st.obl) ∧
  ∀S H T S' H',Inv tr ops st S H T→b8 callA lo n R.reverse S H=some (S',H')→de S' H' st'.obl→∃T',bU P callA.ret lo ops raised l T H=some (T',H')∧Inv tr ops st' S' H' T'
 | [],st,st',h=>by
  simp[dR]at h;subst h;refine⟨[],rfl,by simp,id,fun _ S H fin hf ⟨S1,H1,hx,hfin⟩=>?_,fun S H T S' H' hI hx _=>?_⟩
  ·simp[b8]at hx;obtain⟨rfl,rfl⟩:=hx;exact hf _ _ hfin
  ·simp[b8]at hx;obtain⟨rfl,rfl⟩:=hx;exact⟨T,rfl,hI⟩
 | i::l,st,st',h=>by
  simp only[dR]at h;split at h
  ·rename_i o ho
   split at h
   ·rename_i st1 h1
    obtain⟨R,e1,e2,e3,e4,e5⟩:=fq hnd l st1 st' h;cases hr:rsv P (raised i) o with
    | mk rop xs=>
    cases rop with
    | l lo'=>
     obtain⟨f1,f2,f3⟩:=lZ (callA:=callA.ret) (lo:=lo) h1 hr;refine⟨R,by rw[e1,f1],e2,fun hI=>e3 (f2 hI).1,fun hI S H fin hf hx=>(f2 hI).2 S H (e4 (f2 hI).1 S H fin hf hx),fun S H T S' H' hI hx hob=>?_⟩;have hob1:de S H st1.obl:=e4 (f2 hI.toSInv).1 S H (fun a b=>a=S'∧b=H') (fun a b ⟨ha,hb⟩=>by rw[ha,hb];exact hob) ⟨S',H',hx,rfl,rfl⟩;obtain⟨T1,g1,g2⟩:=f3 S H T hI hob1;obtain⟨T',g3,g4⟩:=e5 S H T1 S' H' g2 hx hob;exact⟨T',by simp only[bU,ho,g1,g3],g4⟩
    | h hop=>
     obtain⟨s,f1,f2,f3,f4,f5,f6,_⟩:=jL (callA:=callA) (lo:=lo) (n:=n) hnd h1 hr;have hI1:SInv tr ops st1:=⟨by rw[f2];simp,by rw[f2];simp,by rw[f3];simp⟩;refine⟨R++[s],by rw[e1,f1];simp,?_,fun _=>e3 hI1,fun hI S H fin hf ⟨S1,H1,hx,hfin⟩=>?_,fun S H T S' H' hI hx hob=>?_⟩
     ·intro x hx
      rcases List.mem_append.1 hx with hx|hx
      ·exact e2 x hx
      ·simp at hx;rw[hx];exact f4
     ·simp only[List.reverse_append,List.reverse_cons,List.reverse_nil,List.nil_append,List.singleton_append,b8]at hx
      split at hx
      ·rename_i S2 H2 hs;exact f5 hI S H _ hs
      ·simp at hx
     ·simp only[List.reverse_append,List.reverse_cons,List.reverse_nil,List.nil_append,List.singleton_append,b8]at hx
      split at hx
      ·rename_i S2 H2 hs
       obtain⟨T1,g1,g2⟩:=f6 S H T S2 H2 hI hs;obtain⟨T',g3,g4⟩:=e5 S2 H2 T1 S' H' g2 hx hob;exact⟨T',by simp only[bU,ho,g1,g3],g4⟩
      ·simp at hx
   ·simp at h
  ·simp at h
def CP(P:Program)(callA:CallR)(lo:Nat)(ops:List Oper)(raised:Nat→cG)(l:List Nat)(T:Raw)(H:Heap)(p:Value)(T1:Raw)(H':Heap):Prop:=
 ∃l1 i l2 H1 o h xs,l=l1++i::l2∧bU P callA.ret lo ops raised l1 T H=some (T1,H1)∧ops[i]?=some o∧bO ops T1 o=true∧rsv P (raised i) o=(.h h,xs)∧cQ callA lo h (xs.map (aW T1)) H1=some (p,H')
theorem nA(hnd:Nd tr){raised:Nat→cG}:∀(l:List Nat) (st st':CS),dR P tr ops raised l st=some st'→∃R,st'.out=R++st.out ∧
  (SInv tr ops st→∀S H r,br callA lo n R.reverse S H=some r→de S H st.obl) ∧
  ∀S H T p S' H',Inv tr ops st S H T→br callA lo n R.reverse S H=some (p,S',H')→∃T1,S'.length=tr.length∧(∀(j t:Nat),tr[j]?=some t→S'[j]?=some (T1 t))∧CP P callA lo ops raised l T H p T1 H'
 | [],st,st',h=>by
  simp[dR]at h;subst h;exact⟨[],rfl,fun _ S H r hx=>by simp[br]at hx,fun S H T p S' H' hI hx=>by simp[br]at hx⟩
 | i::l,st,st',h=>by
  simp only[dR]at h;split at h
  ·rename_i o ho
   split at h
   ·rename_i st1 h1
    obtain⟨R,e1,e4,e5⟩:=nA hnd l st1 st' h;cases hr:rsv P (raised i) o with
    | mk rop xs=>
    cases rop with
    | l lo'=>
     obtain⟨f1,f2,f3⟩:=lZ (callA:=callA.ret) (lo:=lo) h1 hr;refine⟨R,by rw[e1,f1],fun hI S H r hx=>(f2 hI).2 S H (e4 (f2 hI).1 S H r hx),fun S H T p S' H' hI hx=>?_⟩;have hob1:de S H st1.obl:=e4 (f2 hI.toSInv).1 S H _ hx;obtain⟨T1,g1,g2⟩:=f3 S H T hI hob1;obtain⟨T2,g3,g4,l1,i',l2,H1,o',h',xs',q1,q2,q3⟩:=e5 S H T1 p S' H' g2 hx;exact⟨T2,g3,g4,i::l1,i',l2,H1,o',h',xs',by rw[q1];rfl,by simp only[bU,ho,g1,q2],q3⟩
    | h hop=>
     obtain⟨s,f1,f2,f3,f4,f5,f6,f7⟩:=jL (callA:=callA) (lo:=lo) (n:=n) hnd h1 hr;refine⟨R++[s],by rw[e1,f1];simp,fun hI S H r hx=>?_,fun S H T p S' H' hI hx=>?_⟩
     ·simp only[List.reverse_append,List.reverse_cons,List.reverse_nil,List.nil_append,List.singleton_append,br]at hx
      split at hx
      ·rename_i S2 H2 hs;exact f5 hI S H _ hs
      ·rename_i j p' S2 H2 hs;exact f5 hI S H _ hs
      ·simp at hx
     ·simp only[List.reverse_append,List.reverse_cons,List.reverse_nil,List.nil_append,List.singleton_append,br]at hx
      split at hx
      ·rename_i S2 H2 hs
       obtain⟨T1,g1,g2⟩:=f6 S H T S2 H2 hI hs;obtain⟨T2,g3,g4,l1,i',l2,H1,o',h',xs',q1,q2,q3⟩:=e5 S2 H2 T1 p S' H' g2 hx;exact⟨T2,g3,g4,i::l1,i',l2,H1,o',h',xs',by rw[q1];rfl,by simp only[bU,ho,g1,q2],q3⟩
      ·rename_i j p' S2 H2 hs
       obtain⟨p2,S3,e,hj,k1,k2,k3,k4⟩:=f7 S H T j _ H2 hI hs;rw[if_pos hj]at hx;simp only[Option.some.injEq,Prod.mk.injEq]at hx;obtain⟨rfl,rfl,rfl⟩:=hx;simp only[List.cons.injEq]at e;obtain⟨rfl,rfl⟩:=e;exact⟨T,k1,k2,[],i,l,H,o,hop,xs,rfl,rfl,ho,k3,hr,k4⟩
      ·simp at hx
   ·simp at h
  ·simp at h
end
section
variable {P:Program}{callA:CallR}{lo n:Nat}{tr:List Nat}{S:List Value}{H:Heap}{T:Raw}
theorem jK{s:Stm}(h:dQ s=true){S':List Value}{H':Heap}{ex:Ex}(hx:exec callA lo n s S H=some (ex,S',H')):ex=.normal∨(ex=.exit bF∧∃p S1,S'=p::S1):=by
 cases s<;>simp[dQ]at h
 ·simp only[exec]at hx
  repeat' (split at hx)
  all_goals (first|(simp at hx;done)|(simp at hx;exact .inl hx.1.symm))
 ·simp only[exec]at hx
  repeat' (split at hx)
  all_goals (first|(simp at hx;done)|(simp at hx;exact .inl hx.1.symm)|(simp at hx;exact .inr ⟨hx.1.symm,_,_,hx.2.1.symm⟩))
 ·simp only[exec]at hx
  repeat' (split at hx)
  all_goals (first|(simp at hx;done)|(simp at hx;exact .inl hx.1.symm))
theorem my:∀{l:List Stm},(∀s ∈ l,dQ s=true)→∀{S S':List Value} {H H':Heap} {ex:Ex},exec callA lo n (dU l) S H=some (ex,S',H') →
  (ex=.normal∧b8 callA lo n l S H=some (S',H'))∨(ex=.exit bF∧∃p S1,S'=p::S1∧br callA lo n l S H=some (p,S1,H'))
 | [],_,S,S',H,H',ex,h=>by simp[dU,exec]at h;obtain⟨rfl,rfl,rfl⟩:=h;exact .inl ⟨rfl,rfl⟩
 | [s],hp,S,S',H,H',ex,h=>by
  simp only[dU]at h;rcases jK (hp s (by simp)) h with rfl|⟨rfl,p,S1,rfl⟩
  ·exact .inl ⟨rfl,by simp[b8,h]⟩
  ·exact .inr ⟨rfl,p,S1,rfl,by simp[br,h]⟩
 | s::t::r,hp,S,S',H,H',ex,h=>by
  simp only[dU,exec]at h;split at h
  ·rename_i S1 H1 hs
   rcases my (l:=t::r) (fun x hx=>hp x (by simp at hx ⊢;exact .inr hx)) h with ⟨h1,h2⟩|⟨h1,p,S2,h2,h3⟩
   ·exact .inl ⟨h1,by rw[b8,hs];exact h2⟩
   ·exact .inr ⟨h1,p,S2,h2,by rw[br,hs];exact h3⟩
  ·rename_i hne
   rcases jK (hp s (by simp)) h with rfl|⟨rfl,p,S1,rfl⟩
   ·exact absurd h (hne _ _)
   ·exact .inr ⟨rfl,p,S1,rfl,by simp[br,h]⟩
theorem j2{c:Stm}:∀{l:List Stm},(∀s ∈ l,dQ s=true)→∀{S S':List Value} {H H':Heap} {ex:Ex},exec callA lo n (dU (l++[c])) S H=some (ex,S',H') →
  (∃S1 H1,b8 callA lo n l S H=some (S1,H1)∧exec callA lo n c S1 H1=some (ex,S',H'))∨(ex=.exit bF∧∃p S1,S'=p::S1∧br callA lo n l S H=some (p,S1,H'))
 | [],_,S,S',H,H',ex,h=>.inl ⟨S,H,rfl,h⟩
 | [s],hp,S,S',H,H',ex,h=>by
  simp only[List.cons_append,List.nil_append,dU,exec]at h;split at h
  ·rename_i S1 H1 hs;exact .inl ⟨S1,H1,by simp[b8,hs],h⟩
  ·rename_i hne
   rcases jK (hp s (by simp)) h with rfl|⟨rfl,p,S1,rfl⟩
   ·exact absurd h (hne _ _)
   ·exact .inr ⟨rfl,p,S1,rfl,by simp[br,h]⟩
 | s::t::r,hp,S,S',H,H',ex,h=>by
  simp only[List.cons_append,dU,exec]at h;split at h
  ·rename_i S1 H1 hs
   rcases j2 (l:=t::r) (fun x hx=>hp x (by simp at hx ⊢;exact .inr hx)) (by simpa using h)with ⟨S2,H2,e1,e2⟩|⟨h1,p,S2,h2,h3⟩
   ·exact .inl ⟨S2,H2,by rw[b8,hs];exact e1,e2⟩
   ·exact .inr ⟨h1,p,S2,h2,by rw[br,hs];exact h3⟩
  ·rename_i hne
   rcases jK (hp s (by simp)) h with rfl|⟨rfl,p,S1,rfl⟩
   ·exact absurd h (hne _ _)
   ·exact .inr ⟨rfl,p,S1,rfl,by simp[br,h]⟩
theorem se{callB:dN}{vs:List Value}{r:Value×Heap}(h:hsem callB lo .callC vs H=some r):hsem callB lo (.call false) vs H=some r:=by
 unfold hsem at h;split at h
 all_goals first
  | (rename_i e;cases e;simp only[hsem];exact h)
  | (rename_i e;exact HOp.noConfusion e)
  | (cases h)
theorem oe{s:Stm}(h:dQ s=true):dQ (jA s)=true:=by
 unfold jA;split<;>first|rfl|exact h
theorem wO{s:Stm}{S':List Value}{H':Heap}(hx:exec callA lo n (jA s) S H=some (.normal,S',H')):exec callA lo n s S H=some (.normal,S',H'):=by
 unfold jA at hx;split at hx
 ·simp only[exec]at hx ⊢
  split at hx
  ·rename_i vs hvs
   split at hx
   ·rename_i hck
    simp only[hck,if_true];split at hx
    ·split at hx
     ·rename_i xs hxs
      split at hx
      ·rename_i v H1 hv
       rw[se hv];exact hx
      ·simp[cQ]at hx
     ·simp at hx
    ·exact hx
    ·simp at hx
   ·simp at hx
  ·simp at hx
 ·simp only[exec]at hx ⊢
  split at hx
  ·rename_i vs hvs
   split at hx
   ·rename_i hck
    simp only[hck,if_true];split at hx
    ·split at hx
     ·simp[hsem,cQ]at hx
     ·simp at hx
    ·exact hx
    ·simp at hx
   ·simp at hx
  ·simp at hx
 ·exact hx
theorem wu{s:Stm}(hp:dQ s=true){ex:Ex}{S':List Value}{H':Heap}(hx:exec callA lo n (jA s) S H=some (ex,S',H')):ex=.normal:=by
 cases s<;>simp[dQ]at hp
 ·simp only[jA,exec]at hx
  repeat' (split at hx)
  all_goals (first|(simp at hx;done)|(simp at hx;exact hx.1.symm))
 ·rename_i l chk pc dst o a
  cases o<;>simp only[jA,exec]at hx
  case call r=>
   cases r<;>simp only[jA,exec]at hx
   all_goals (repeat' (split at hx))
   all_goals (first|(simp at hx;done)|(simp at hx;exact hx.1.symm)|(simp_all [cQ];done))
  all_goals (repeat' (split at hx))
  all_goals (first|(simp at hx;done)|(simp at hx;exact hx.1.symm)|(simp_all [cQ];done))
 ·simp only[jA,exec]at hx
  repeat' (split at hx)
  all_goals (first|(simp at hx;done)|(simp at hx;exact hx.1.symm))
theorem jU:∀{l:List Stm} {S S':List Value} {H H':Heap},b8 callA lo n (l.map jA) S H=some (S',H')→b8 callA lo n l S H=some (S',H')
 | [],_,_,_,_,h=>h
 | s::r,S,S',H,H',h=>by
  simp only[List.map_cons,b8]at h;split at h
  ·rename_i S1 H1 hs
   simp only[b8,wO hs];exact jU h
  ·simp at h
theorem lF:∀{l:List Stm},(∀s ∈ l,dQ s=true)→∀{S:List Value} {H:Heap},br callA lo n (l.map jA) S H=none
 | [],_,_,_=>rfl
 | s::r,hp,S,H=>by
  simp only[List.map_cons,br];split
  ·exact lF (fun x hx=>hp x (by simp[hx]))
  ·rename_i j p S1 H1 hs
   have:=wu (hp s (by simp)) hs;cases this
  ·rfl
theorem mz{ops:List Oper}{draw:Bool}{st:CS}:(cC P ops draw st).env=st.env∧(cC P ops draw st).obl=st.obl:=by
 unfold cC;split<;>exact⟨rfl,rfl⟩
theorem ig{ops:List Oper}{draw:Bool}{st:CS}(h:∀s ∈ st.out,dQ s=true):∀s ∈ (cC P ops draw st).out,dQ s=true:=by
 intro s hs;unfold cC at hs;split at hs
 ·cases ho:st.out with
  | nil=>rw[ho]at hs;simp at hs
  | cons x r=>
   rw[ho]at hs h;simp only[List.mem_cons,List.mem_map]at hs;rcases hs with rfl|⟨y,hy,rfl⟩
   ·split
    ·exact h x (by simp)
    ·exact oe (h x (by simp))
   ·exact oe (h y (by simp[hy]))
 ·exact h s hs
theorem kb{l m:List Stm}{S S1 S':List Value}{H H1 H':Heap}:b8 callA lo n l S H=some (S1,H1)→b8 callA lo n m S1 H1=some (S',H')→b8 callA lo n (l++m) S H=some (S',H'):=by
 induction l generalizing S H with
 | nil=>intro h1 h2;simp only[b8,Option.some.injEq,Prod.mk.injEq]at h1;obtain⟨rfl,rfl⟩:=h1;exact h2
 | cons s r ih=>
  intro h1 h2;simp only[List.cons_append,b8]at h1 ⊢;split at h1
  ·exact ih h1 h2
  ·simp at h1
theorem gi:∀{l m:List Stm},(∀S H,br callA lo n m S H=none)→∀{S:List Value} {H:Heap} {r:Value×List Value×Heap},br callA lo n (l++m) S H=some r→br callA lo n l S H=some r
 | [],m,hm,S,H,r,h=>by rw[List.nil_append,hm]at h;cases h
 | s::l,m,hm,S,H,r,h=>by
  simp only[List.cons_append,br]at h ⊢;split at h
  ·rename_i S1 H1 hs
   exact gi hm h
  ·exact h
  ·simp at h
theorem nh{l:List (Nat×E)}{chk:List E}(S:List Value)(H:Heap):br callA lo n [.sets l chk] S H=none:=by
 simp only[br,exec];cases evSets S H l with
 | none=>rfl
 | some vs=>cases evChk S H chk<;>rfl
theorem db:∀{l m:List Stm} {S S':List Value} {H H':Heap},b8 callA lo n (l++m) S H=some (S',H')→∃S1 H1,b8 callA lo n l S H=some (S1,H1)∧b8 callA lo n m S1 H1=some (S',H')
 | [],m,S,S',H,H',h=>⟨S,H,rfl,h⟩
 | s::r,m,S,S',H,H',h=>by
  simp only[List.cons_append,b8]at h;split at h
  ·rename_i S1 H1 hs
   obtain⟨S2,H2,e1,e2⟩:=db h;exact⟨S2,H2,by simp only[b8,hs];exact e1,e2⟩
  ·simp at h
theorem im{ops:List Oper}{draw:Bool}{st:CS}{m:List Stm}{S':List Value}{H':Heap}(h:b8 callA lo n ((cC P ops draw st).out.reverse++m) S H=some (S',H')):b8 callA lo n (st.out.reverse++m) S H=some (S',H'):=by
 obtain⟨S1,H1,h1,h2⟩:=db h;refine kb ?_ h2;unfold cC at h1;split at h1
 ·cases ho:st.out with
  | nil=>rw[ho]at h1;exact h1
  | cons x r=>
   rw[ho]at h1;simp only[List.reverse_cons]at h1 ⊢;obtain⟨S2,H2,h3,h4⟩:=db h1;rw[←List.map_reverse]at h3;refine kb (jU h3) ?_;split at h4
   ·exact h4
   ·exact jU (l:=[x]) h4
 ·exact h1
theorem oL:∀{l m:List Stm} {S:List Value} {H:Heap} {r:Value×List Value×Heap},br callA lo n (l++m) S H=some r→(br callA lo n l S H=some r)∨(∃S1 H1,b8 callA lo n l S H=some (S1,H1)∧br callA lo n m S1 H1=some r)
 | [],m,S,H,r,h=>.inr ⟨S,H,rfl,h⟩
 | s::l,m,S,H,r,h=>by
  simp only[List.cons_append,br]at h;split at h
  ·rename_i S1 H1 hs
   rcases oL h with h|⟨S2,H2,h1,h2⟩
   ·exact .inl (by simp only[br,hs];exact h)
   ·exact .inr ⟨S2,H2,by simp only[b8,hs];exact h1,h2⟩
  ·rename_i j p S1 H1 hs
   exact .inl (by simp only[br,hs];exact h)
  ·simp at h
theorem fu{ops:List Oper}{draw:Bool}{st:CS}{m:List Stm}(hp:∀s ∈ st.out,dQ s=true)(hm:∀S H,br callA lo n m S H=none){p:Value}{S':List Value}{H':Heap}(h:br callA lo n ((cC P ops draw st).out.reverse++m) S H=some (p,S',H')) :
  (draw=false∧br callA lo n st.out.reverse S H=some (p,S',H'))∨(draw=true∧mY P ops=true∧∃x r S1 H1,st.out=x::r∧b8 callA lo n r.reverse S H=some (S1,H1)∧exec callA lo n x S1 H1=some (.exit bF,p::S',H')):=by
 replace h:=gi hm h;unfold cC at h;split at h
 ·rename_i hd
  subst hd;right;refine⟨rfl,?_⟩;cases ho:st.out with
  | nil=>rw[ho]at h;simp[br]at h
  | cons x r=>
   rw[ho]at h hp;simp only[List.reverse_cons]at h;rw[←List.map_reverse]at h;rcases oL h with h|⟨S1,H1,h1,h2⟩
   ·rw[lF (fun s hs=>hp s (by simp at hs;simp[hs]))]at h;simp at h
   ·split at h2
    ·rename_i hl
     refine⟨hl,x,r,S1,H1,rfl,jU h1,?_⟩;simp only[br]at h2;split at h2
     ·simp at h2
     ·rename_i j q S2 H2 hs
      split at h2
      ·rename_i hj
       simp only[Option.some.injEq,Prod.mk.injEq]at h2;obtain⟨rfl,rfl,rfl⟩:=h2;rw[hs,hj]
      ·simp at h2
     ·simp at h2
    ·have:=lF (callA:=callA) (lo:=lo) (n:=n) (l:=[x]) (fun s hs=>hp s (by simp at hs;simp[hs])) (S:=S1) (H:=H1)
     simp only[List.map_cons,List.map_nil]at this;rw[this]at h2;simp at h2
 ·rename_i hd
  exact .inl ⟨by simpa using hd,h⟩
theorem j0{ops:List Oper}{draw:Bool}{st:CS}:∃m,flush tr st=st.out.reverse++m∧flush tr (cC P ops draw st)=(cC P ops draw st).out.reverse++m∧(m=[]∨∃a b,m=[.sets a b]):=by
 unfold flush;rw[(mz (P:=P) (ops:=ops) (draw:=draw) (st:=st)).1,(mz (P:=P) (ops:=ops) (draw:=draw) (st:=st)).2];simp only;split
 ·exact⟨[],by simp,by simp,.inl rfl⟩
 ·exact⟨_,rfl,rfl,.inr ⟨_,_,rfl⟩⟩
theorem mw{ops:List Oper}{draw:Bool}{st:CS}{S':List Value}{H':Heap}(h:b8 callA lo n (flush tr (cC P ops draw st)) S H=some (S',H')):b8 callA lo n (flush tr st) S H=some (S',H'):=by
 obtain⟨m,h1,h2,_⟩:=j0 (P:=P) (tr:=tr) (ops:=ops) (draw:=draw) (st:=st);rw[h2]at h;rw[h1];exact im h
theorem uW{m:List Stm}(h:m=[]∨∃a b,m=[.sets a b])(S:List Value)(H:Heap):br callA lo n m S H=none:=by
 rcases h with rfl|⟨a,b,rfl⟩
 ·rfl
 ·exact nh S H
def cF(tr:List Nat)(S:List Value)(T:Raw):Prop:=S.length=tr.length∧∀(j t:Nat),tr[j]?=some t→S[j]?=some (T t)
theorem iw{ops:List Oper}(h:cF tr S T):Inv tr ops be S H T:=
 ⟨⟨by simp[be],by simp[be],by simp[be]⟩,h.1,fun j t ht _=>h.2 j t ht,by simp[be]⟩
theorem Inv.done{ops:List Oper}{st:CS}(hI:Inv tr ops st S H T)(he:(fR tr st.env).isEmpty=true)(hnd:Nd tr):cF tr S T:=by
 refine⟨hI.len,fun j t ht=>?_⟩;have hf:fR tr st.env=[]:=by simpa using he
 have:=iZ hnd hI (vs:=[]) (by rw[hf];rfl) ht;simpa[setAll]using this
def ku(P:Program)(ops:List Oper)(draw:Bool)(T:Raw):Prop:=
 ∀q ∈ fK P ops draw,∃x y,az P ops q.1=some x∧az P ops q.2=some y∧(bE (aW T x)=none∨bE (aW T x)≠bE (aW T y))
theorem kI{o:Operand}{x:Ent}(hS:cF tr S T)(h:opE tr [] o=some x):ev1 S H x.e=some (aW T o):=
 (m8 (ops:=[]) (st:=be) (iw hS) (by simpa[be]using h)).1 (by
  have:=lG (ops:=[]) (st:=be) (iw (H:=H) hS).toSInv (by simpa[be]using h);cases o<;>simp only[opE]at h
  ·simp[iI]at h;obtain⟨j,_,rfl⟩:=h;exact dh
  ·split at h
   ·simp at h;subst h;exact dh
   ·simp at h
  ·simp at h;subst h;exact dh
  ·simp at h;subst h;exact dh)
theorem gv(hS:cF tr S T)(ops:List Oper):∀(ps:List (Nat×Nat)) (acc l:List Stm),ps.foldlM (init:=acc) (fun acc q=>
   match az P ops q.1,az P ops q.2 with
   | some x,some y=>match opE tr [] x,opE tr [] y with
    | some a,some c=>some (acc++[Stm.dist a.e c.e])
    | _,_=>none
   | _,_=>none)=some l→∃m,l=acc++m∧(∀s ∈ m,dQ s=true)∧∀S' H',b8 callA lo n m S H=some (S',H')→S'=S∧H'=H∧∀q ∈ ps,∃x y,az P ops q.1=some x∧az P ops q.2=some y∧(bE (aW T x)=none∨bE (aW T x)≠bE (aW T y))
 | [],acc,l,h=>by
  simp at h;subst h;exact⟨[],by simp,by simp,fun S' H' hx=>by simp[b8]at hx;exact⟨hx.1.symm,hx.2.symm,by simp⟩⟩
 | q::ps,acc,l,h=>by
  simp only[List.foldlM_cons,Option.bind_eq_bind,Option.bind_eq_some_iff]at h;obtain⟨acc',h1,h2⟩:=h;split at h1<;>try (simp at h1;done)
  rename_i x y hx hy;split at h1<;>try (simp at h1;done)
  rename_i a c ha hc;simp at h1;subst h1;obtain⟨m,e1,e2,e3⟩:=gv hS ops ps _ l h2;refine⟨.dist a.e c.e::m,by rw[e1];simp,?_,fun S' H' hexec=>?_⟩
  ·intro s hs
   cases hs with
   | head=>rfl
   | tail _ hs=>exact e2 s hs
  ·simp only[b8,exec,kI (H:=H) hS ha,kI (H:=H) hS hc]at hexec
   split at hexec
   ·rename_i S1 H1 hs
    split at hs
    ·rename_i hcond
     simp at hs;obtain⟨rfl,rfl⟩:=hs;obtain⟨f1,f2,f3⟩:=e3 S' H' hexec;refine⟨f1,f2,fun q' hq=>?_⟩;cases hq with
     | head=>exact⟨x,y,hx,hy,hcond⟩
     | tail _ hq=>exact f3 q' hq
    ·simp at hs
   ·simp at hexec
theorem lA:∀(ps:List Stm),(∀s ∈ ps,∃a b,s=.dist a b)→∀(S:List Value) (H:Heap),br callA lo n ps S H=none
 | [],_,_,_=>rfl
 | s::r,h,S,H=>by
  obtain⟨a,b,rfl⟩:=h s (by simp);simp only[br];split
  ·exact lA r (fun x hx=>h x (by simp[hx])) _ _
  ·rename_i j p S1 H1 hs
   simp only[exec]at hs;repeat' (split at hs)
   all_goals simp at hs
  ·rfl
theorem oA(ops:List Oper):∀(ps:List (Nat×Nat)) (acc l:List Stm),ps.foldlM (init:=acc) (fun acc q=>
   match az P ops q.1,az P ops q.2 with
   | some x,some y=>match opE tr [] x,opE tr [] y with
    | some a,some c=>some (acc++[Stm.dist a.e c.e])
    | _,_=>none
   | _,_=>none)=some l→(∀s ∈ acc,∃a b,s=Stm.dist a b)→∀s ∈ l,∃a b,s=Stm.dist a b
 | [],acc,l,h,ha=>by simp at h;subst h;exact ha
 | q::ps,acc,l,h,ha=>by
  simp only[List.foldlM_cons,Option.bind_eq_bind,Option.bind_eq_some_iff]at h;obtain⟨acc',h1,h2⟩:=h;split at h1<;>try (simp at h1;done)
  rename_i x y hx hy;split at h1<;>try (simp at h1;done)
  rename_i a c hac hc;simp at h1;subst h1;refine oA ops ps _ l h2 fun s hs=>?_;rcases List.mem_append.1 hs with hs|hs
  ·exact ha s hs
  ·simp at hs;exact⟨_,_,hs⟩
theorem qz(hnd:Nd tr){ops:List Oper}{st:CS}{raised:Nat→cG}{l:List Nat}(h:dR P tr ops raised l be=some st)(hS:cF tr S T){S':List Value}{H':Heap}
  (hx:b8 callA lo n (flush tr st) S H=some (S',H')):∃T',bU P callA.ret lo ops raised l T H=some (T',H')∧cF tr S' T':=by
 obtain⟨R,e1,e2,e3,e4,e5⟩:=fq (callA:=callA) (lo:=lo) (n:=n) hnd l be st h;have hout:st.out=R:=by rw[e1];simp[be]
 have hI0:=iw (ops:=ops) (H:=H) hS;unfold flush at hx;simp only[hout]at hx;split at hx
 ·rename_i hemp
  simp only[Bool.and_eq_true]at hemp;have hobl:de S' H' st.obl:=by
   intro x hxo hh;have hsi:=e3 hI0.toSInv;obtain⟨y,hy,y1,y2,y3,y4⟩:=hsi.obls x hxo;by_cases hi:(idxOf tr x.t).isSome=true
   ·obtain⟨j,hj⟩:=Option.isSome_iff_exists.1 hi
    have:=jM (tr:=tr) hy (by rw[y1];exact hj);have hf:fR tr st.env=[]:=by simpa using hemp.1
    rw[hf]at this;simp at this
   ·have hm:x ∈ st.obl.filter fun x=>!(idxOf tr x.t).isSome:=List.mem_filter.2 ⟨hxo,by simpa using hi⟩
    have hc:(st.obl.filter fun x=>!(idxOf tr x.t).isSome)=[]:=by simpa[wg]using hemp.2
    rw[hc]at hm;simp at hm
  obtain⟨T',f1,f2⟩:=e5 S H T S' H' hI0 hx hobl;exact⟨T',f1,f2.done hemp.1 hnd⟩
 ·obtain⟨S1,H1,g1,g2⟩:=db hx
  simp only[b8,exec]at g2;split at g2
  ·rename_i S2 H2 hs
   split at hs
   ·rename_i vs hvs
    split at hs
    ·rename_i hchk
     simp at hs g2;obtain⟨rfl,rfl⟩:=hs;obtain⟨rfl,rfl⟩:=g2;have hsi:=e3 hI0.toSInv;have hobl:de S1 H1 st.obl:=by
      intro x hxo hh;by_cases hi:(idxOf tr x.t).isSome=true
      ·exact qB hsi hvs hxo hi hh
      ·exact qv hchk (List.mem_filter.2 ⟨hxo,by simpa using hi⟩) hh
     obtain⟨T',f1,f2⟩:=e5 S H T S1 H1 hI0 g1 hobl;exact⟨T',f1,by rw[iJ];exact f2.len,fun j t ht=>iZ hnd f2 hvs ht⟩
    ·simp at hs
   ·simp at hs
  ·simp at g2
theorem lk{ops:List Oper}{raised:Nat→cG}{i:Nat}:∀{l:List Nat} {st st':CS},dR P tr ops raised (l++[i]) st=some st'→∃st1 o,dR P tr ops raised l st=some st1∧ops[i]?=some o∧mW P tr ops (raised i) st1 o=some st'
 | [],st,st',h=>by
  simp only[List.nil_append,dR]at h;split at h
  ·rename_i o ho
   split at h
   ·rename_i st1 h1;simp at h;subst h;exact⟨st,o,rfl,ho,h1⟩
   ·simp at h
  ·simp at h
 | j::l,st,st',h=>by
  simp only[List.cons_append,dR]at h;split at h
  ·rename_i o ho
   split at h
   ·rename_i st1 h1
    obtain⟨st2,o2,g1,g2,g3⟩:=lk h;exact⟨st2,o2,by simp only[dR,ho,h1];exact g1,g2,g3⟩
   ·simp at h
  ·simp at h
def wb(P:Program)(callA:CallR)(lo:Nat)(ops:List Oper)(draw:Bool)(T:Raw)(H:Heap)(p:Value)(T1:Raw)(H':Heap):Prop:=
 (draw=false∧CP P callA lo ops (bY P ops draw) (cM P ops draw) T H p T1 H') ∨
 (draw=true∧mY P ops=true∧∃H1 o h xs,ops[ops.dropLast.length]?=some o∧bU P callA.ret lo ops (bY P ops true) (cM P ops.dropLast true) T H=some (T1,H1)∧bO ops T1 o=true∧rsv P (bY P ops true ops.dropLast.length) o=(.h h,xs) ∧
  cQ callA lo h (xs.map (aW T1)) H1=some (p,H'))
theorem wJ{P:Program}{k:cG}{o:Oper}(h:∃hh xs,resolve P o.op=(.h hh,xs)):∃hh xs,rsv P k o=(.h hh,xs):=by
 obtain⟨hh,xs,e⟩:=h;unfold rsv oU;rw[e];cases hh<;>first|exact⟨_,_,rfl⟩|(cases k<;>exact⟨_,_,rfl⟩)
theorem nZ(hnd:Nd tr){ops:List Oper}{draw:Bool}{st:CS}(h:dR P tr ops (bY P ops draw) (cM P ops draw) be=some st)(hS:cF tr S T){p:Value}{S':List Value}{H':Heap}
  (hx:(draw=false∧br callA lo n st.out.reverse S H=some (p,S',H'))∨(draw=true∧mY P ops=true∧∃x r S1 H1,st.out=x::r∧b8 callA lo n r.reverse S H=some (S1,H1)∧exec callA lo n x S1 H1=some (.exit bF,p::S',H'))) :
  ∃T',cF tr S' T'∧wb P callA lo ops draw T H p T' H':=by
 have hI0:=iw (ops:=ops) (H:=H) hS;rcases hx with ⟨rfl,hx⟩|⟨rfl,hl,x,r,S1,H1,ho,hL,hX⟩
 ·obtain⟨R,e1,e4,e5⟩:=nA (callA:=callA) (lo:=lo) (n:=n) hnd _ be st h
  have hout:st.out=R:=by rw[e1];simp[be]
  rw[hout]at hx;obtain⟨T1,g1,g2,g3⟩:=e5 S H T p S' H' hI0 hx;exact⟨T1,⟨g1,g2⟩,.inl ⟨rfl,g3⟩⟩
 ·have hl':=hl
  unfold mY at hl';simp only[Bool.and_eq_true,beq_iff_eq]at hl';obtain⟨hcall,hord,_⟩:=hl';rw[hord]at h;obtain⟨st1,o,g1,g2,g3⟩:=lk h;have hres:∃hh xs,rsv P (bY P ops true ops.dropLast.length) o=(.h hh,xs):=by
   rw[g2]at hcall;simp only[Option.any_some,gP]at hcall;exact wJ (by
    cases hr:resolve P o.op with
    | mk rop xs=>
     rw[hr]at hcall;cases rop with
     | l l=>simp at hcall
     | h hh=>exact⟨hh,xs,rfl⟩)
  obtain⟨hh,xs,hres⟩:=hres;obtain⟨y,f1,f2,f3,f4,f5,f6,f7⟩:=jL (callA:=callA) (lo:=lo) (n:=n) hnd g3 hres;rw[ho]at f1;simp only[List.cons.injEq]at f1;obtain⟨rfl,rfl⟩:=f1;obtain⟨R,e1,e2,e3,e4,e5⟩:=fq (callA:=callA) (lo:=lo) (n:=n) hnd _ be st1 g1;have hout:st1.out=R:=by rw[e1];simp[be]
  rw[hout]at hL;have hob:de S1 H1 st1.obl:=f5 (e3 hI0.toSInv) S1 H1 _ hX;obtain⟨T1,k1,k2⟩:=e5 S H T S1 H1 hI0 hL hob;obtain⟨p2,S3,e,hj,q1,q2,q3,q4⟩:=f7 S1 H1 T1 _ _ H' k2 hX;simp only[List.cons.injEq]at e;obtain⟨rfl,rfl⟩:=e;exact⟨T1,⟨q1,q2⟩,.inr ⟨rfl,hl,H1,o,hh,xs,g2,k1,q3,hres,q4⟩⟩
theorem ic(hnd:Nd tr){ops:List Oper}{draw:Bool}{st:CS}{raised:Nat→cG}{l:List Nat}(h:dR P tr ops raised l be=some st):(∀s ∈ flush tr (cC P ops draw st),dQ s=true)∧∀s ∈ st.out,dQ s=true:=by
 obtain⟨R,e1,e2,_⟩:=fq (callA:=(fun _ _ _ _=>none:CallR)) (lo:=0) (n:=0) hnd l be st h;have hout:st.out=R:=by rw[e1];simp[be]
 have hp:∀s ∈ st.out,dQ s=true:=by rw[hout];exact e2
 refine⟨fun s hs=>?_,hp⟩;obtain⟨m,_,h2,h3⟩:=j0 (P:=P) (tr:=tr) (ops:=ops) (draw:=draw) (st:=st);rw[h2]at hs;rcases List.mem_append.1 hs with hs|hs
 ·exact ig hp s (by simpa using hs)
 ·rcases h3 with rfl|⟨a,b,rfl⟩
  ·simp at hs
  ·simp at hs;rw[hs];rfl
theorem jY(hnd:Nd tr){ops:List Oper}{draw:Bool}{l:List Stm}(h:fG P tr ops draw=some l)(hS:cF tr S T){ex:Ex}{S':List Value}{H':Heap}
  (hx:exec callA lo n (dU l) S H=some (ex,S',H')):(ex=.normal∧(draw=true→fF P ops=true) ∧
   ∃T',bU P callA.ret lo ops (bY P ops draw) (cM P ops draw) T H=some (T',H')∧cF tr S' T'∧ku P ops draw T') ∨
   (ex=.exit bF∧(draw=true→fF P ops=true)∧∃p S1 T',S'=p::S1∧cF tr S1 T'∧wb P callA lo ops draw T H p T' H'):=by
 unfold fG at h;split at h
 ·rename_i st ds hst hds
  simp at h;subst h;unfold cP at hst;split at hst
  ·simp at hst
  ·rename_i hdraw
   have hp1:=ic hnd hst (draw:=draw);obtain⟨m,hm1,hm2,_⟩:=gv (callA:=callA) (lo:=lo) (n:=n) (H:=H) hS ops _ [] ds hds;simp at hm1;subst hm1;rcases my (l:=flush tr (cC P ops draw st)++ds) (fun s hs=>by
    rcases List.mem_append.1 hs with hs|hs
    ·exact hp1.1 s hs
    ·exact hm2 s hs) hx with ⟨rfl,hL⟩|⟨rfl,p,S1,rfl,hP⟩
   ·obtain⟨S1,H1,g1,g2⟩:=db hL
    obtain⟨T',f1,f2⟩:=qz hnd hst hS (mw g1);obtain⟨m',hm1',_,hm3⟩:=gv (callA:=callA) (lo:=lo) (n:=n) (H:=H1) f2 ops _ [] ds hds;simp at hm1';subst hm1';obtain⟨rfl,rfl,hd⟩:=hm3 _ _ g2;refine .inl ⟨rfl,fun e=>?_,T',f1,f2,hd⟩;subst e;simpa using hdraw
   ·have hP1:=gi (lA ds (oA ops _ [] ds hds (by simp))) hP
    obtain⟨m,_,h2,h3⟩:=j0 (P:=P) (tr:=tr) (ops:=ops) (draw:=draw) (st:=st);rw[h2]at hP1;obtain⟨T',f1,f2⟩:=nZ hnd hst hS (fu hp1.2 (uW h3) hP1);exact .inr ⟨rfl,fun e=>by subst e;simpa using hdraw,p,S1,T',rfl,f1,f2⟩
 ·simp at h
theorem AM(hnd:Nd tr){ops:List Oper}{draw:Bool}{c:Operand}{l:List Stm}{e:E}(h:fV P tr ops draw c=some (l,e))(hS:cF tr S T){S':List Value}{H':Heap}
  (hx:b8 callA lo n l S H=some (S',H')) {v:Value} (hv:ev1 S' H' e=some v):(draw=true→fF P ops=true) ∧
   ∃T',bU P callA.ret lo ops (bY P ops draw) (cM P ops draw) T H=some (T',H')∧cF tr S' T'∧ku P ops draw T'∧aW T' c=v:=by
 unfold fV at h;have tail:∀(st:CS) (ds:List Stm) (x:Ent),cP P tr ops draw=some st→jh P tr ops draw=some ds→opE tr [] c=some x→l=flush tr (cC P ops draw st)++ds→e=x.e →
   (draw=true→fF P ops=true)∧∃T',bU P callA.ret lo ops (bY P ops draw) (cM P ops draw) T H=some (T',H')∧cF tr S' T'∧ku P ops draw T'∧aW T' c=v:=by
  intro st ds x hst hds hc hl he;unfold cP at hst;split at hst
  ·simp at hst
  ·rename_i hdraw
   rw[hl]at hx;obtain⟨S1,H1,g1,g2⟩:=db hx;obtain⟨T',f1,f2⟩:=qz hnd hst hS (mw g1);obtain⟨m',hm1',_,hm3⟩:=gv (callA:=callA) (lo:=lo) (n:=n) (H:=H1) f2 ops _ [] ds hds;simp at hm1';subst hm1';obtain⟨rfl,rfl,hd⟩:=hm3 _ _ g2;refine⟨fun e=>by subst e;simpa using hdraw,T',f1,f2,hd,?_⟩;have:=kI (H:=H') f2 hc;rw[he,this]at hv;simpa using hv
 split at h
 ·rename_i st hst hds
  split at h
  ·rename_i hemp
   split at h
   ·rename_i x hcx
    split at h
    ·rename_i hg
     simp only[Option.some.injEq,Prod.mk.injEq]at h;obtain⟨hl,rfl⟩:=h;unfold cP at hst;split at hst
     ·simp at hst
     ·rename_i hdraw
      obtain⟨R,e1,e2,e3,e4,e5⟩:=fq (callA:=callA) (lo:=lo) (n:=n) hnd _ be st hst;have hout:st.out=R:=by rw[e1];simp[be]
      have hI0:=iw (ops:=ops) (H:=H) hS;have hsi:=e3 hI0.toSInv;have hxpc:=lG hsi hcx;have hxg:x.g=none:=by simpa using hg
      rw[hxg]at hxpc;simp[ba]at hxpc;have key:b8 callA lo n R.reverse S H=some (S',H')∧de S' H' st.obl:=by
       have cov:∀(S1:List Value) (H1:Heap),ev1 S1 H1 x.e=some v→(∀y ∈ rest (st.obl.filter fun x=>!(idxOf tr x.t).isSome) none ((bW c).toList),aZ S1 H1 y.pc→(ev S1 H1 y.e).isSome=true)→de S1 H1 st.obl:=by
        intro S1 H1 hev hrest y hy hh;by_cases hi:(idxOf tr y.t).isSome=true
        ·obtain⟨z,hz,z1,z2,z3,z4⟩:=hsi.obls y hy
         obtain⟨j,hj⟩:=Option.isSome_iff_exists.1 hi;have:=jM (tr:=tr) hz (by rw[z1];exact hj);have hf:fR tr st.env=[]:=by simpa using hemp
         rw[hf]at this;simp at this
        ·have hm:y ∈ st.obl.filter fun x=>!(idxOf tr x.t).isSome:=List.mem_filter.2 ⟨hy,by simpa using hi⟩
         rcases jH none ((bW c).toList) hm with h1|⟨h1,h2⟩
         ·exact hrest y h1 hh
         ·obtain⟨z,hz,z1,z2,z3,z4⟩:=hsi.obls y hy
          have ht:bW c=some y.t:=by
           cases hto:bW c with
           | none=>rw[hto]at h2;simp at h2
           | some t=>rw[hto]at h2;simp at h2;rw[h2]
          have hlk:=kK hcx ht;rw[←z1,kP hsi hz]at hlk;cases hlk;rw[←z3,eU hev];rfl
       rw[←hl]at hx;split at hx
       ·rename_i hob
        replace hx:=im (m:=[]) (by rw[List.append_nil];exact hx);rw[List.append_nil,hout]at hx;refine⟨hx,cov S' H' hv (fun y hy=>?_)⟩;have:rest (st.obl.filter fun x=>!(idxOf tr x.t).isSome) none ((bW c).toList)=[]:=by simpa using hob
        rw[this]at hy;simp at hy
       ·replace hx:=im hx
        rw[hout]at hx;obtain⟨S1,H1,g1,g2⟩:=db hx;simp only[b8,exec,evSets,setAll]at g2;split at g2
        ·rename_i S2 H2 hs
         split at hs
         ·rename_i hchk
          simp at hs g2;obtain⟨rfl,rfl⟩:=hs;obtain⟨rfl,rfl⟩:=g2;exact⟨g1,cov _ _ hv (fun y hy=>qv hchk hy)⟩
         ·simp at hs
        ·simp at g2
      obtain⟨T',f1,f2⟩:=e5 S H T S' H' hI0 key.1 key.2;refine⟨fun e=>by subst e;simpa using hdraw,T',f1,f2.done hemp hnd,?_,?_⟩
      ·obtain⟨m,hm1,_,hm3⟩:=gv (callA:=callA) (lo:=lo) (n:=n) (H:=H') (f2.done hemp hnd) ops _ [] [] hds
       simp at hm1;subst hm1;exact(hm3 S' H' rfl).2.2
      ·have:=(m8 f2 hcx).1 (by rw[hxpc];exact dh)
       rw[hv]at this;simpa using this.symm
    ·simp at h
   ·simp at h
  ·split at h
   ·rename_i x hcx
    simp at h;obtain⟨rfl,rfl⟩:=h;exact tail st [] x hst hds hcx (by simp) rfl
   ·simp at h
 ·rename_i st ds hds hst hne
  split at h
  ·rename_i x hcx
   simp at h;obtain⟨rfl,rfl⟩:=h;exact tail st ds x (by assumption) (by assumption) hcx rfl rfl
  ·simp at h
 ·simp at h
theorem tA(hnd:Nd tr){ops:List Oper}{draw:Bool}{c:Operand}{l:List Stm}{e:E}(h:fV P tr ops draw c=some (l,e))(hS:cF tr S T):∀s ∈ l,dQ s=true:=by
 unfold fV at h;have tail:∀(st:CS) (ds:List Stm),cP P tr ops draw=some st→jh P tr ops draw=some ds→l=flush tr (cC P ops draw st)++ds→∀s ∈ l,dQ s=true:=by
  intro st ds hst hds hl s hs;unfold cP at hst;split at hst
  ·simp at hst
  ·obtain⟨m,hm1,hm2,_⟩:=gv (callA:=(fun _ _ _ _=>none:CallR)) (lo:=0) (n:=0) (H:=[]) hS ops _ [] ds hds
   simp at hm1;subst hm1;rw[hl]at hs;rcases List.mem_append.1 hs with hs|hs
   ·exact(ic hnd hst).1 s hs
   ·exact hm2 s hs
 split at h
 ·rename_i st hst hds
  split at h
  ·split at h
   ·split at h
    ·simp only[Option.some.injEq,Prod.mk.injEq]at h
     obtain⟨hl,rfl⟩:=h;unfold cP at hst;split at hst
     ·simp at hst
     ·obtain⟨R,e1,e2,_⟩:=fq (callA:=(fun _ _ _ _=>none:CallR)) (lo:=0) (n:=0) hnd _ be st hst
      have hout:st.out=R:=by rw[e1];simp[be]
      intro s hs;rw[←hl]at hs;have hp:∀s ∈ st.out,dQ s=true:=by rw[hout];exact e2
      split at hs
      ·exact ig hp s (by simpa using hs)
      ·rcases List.mem_append.1 hs with hs|hs
       ·exact ig hp s (by simpa using hs)
       ·simp at hs;rw[hs];rfl
    ·simp at h
   ·simp at h
  ·split at h
   ·simp at h;obtain⟨rfl,rfl⟩:=h;exact tail st [] hst hds (by simp)
   ·simp at h
 ·split at h
  ·simp at h;obtain⟨rfl,rfl⟩:=h;exact tail _ _ (by assumption) (by assumption) rfl
  ·simp at h
 ·simp at h
theorem zi(hnd:Nd tr){ops:List Oper}{draw:Bool}{c:Operand}{l:List Stm}{e:E}(h:fV P tr ops draw c=some (l,e))(hS:cF tr S T){p:Value}{S':List Value}{H':Heap}
  (hx:br callA lo n l S H=some (p,S',H')):(draw=true→fF P ops=true)∧∃T',cF tr S' T'∧wb P callA lo ops draw T H p T' H':=by
 unfold fV at h;have tail:∀(st:CS) (ds:List Stm),cP P tr ops draw=some st→jh P tr ops draw=some ds→l=flush tr (cC P ops draw st)++ds→(draw=true→fF P ops=true)∧∃T',cF tr S' T'∧wb P callA lo ops draw T H p T' H':=by
  intro st ds hst hds hl;unfold cP at hst;split at hst
  ·simp at hst
  ·rename_i hdraw
   rw[hl]at hx;have hP1:=gi (lA ds (oA ops _ [] ds hds (by simp))) hx;obtain⟨m,_,h2,h3⟩:=j0 (P:=P) (tr:=tr) (ops:=ops) (draw:=draw) (st:=st);rw[h2]at hP1;exact⟨fun e=>by subst e;simpa using hdraw,nZ hnd hst hS (fu (ic hnd hst (draw:=draw)).2 (uW h3) hP1)⟩
 split at h
 ·rename_i st hst hds
  split at h
  ·split at h
   ·split at h
    ·simp only[Option.some.injEq,Prod.mk.injEq]at h
     obtain⟨hl,rfl⟩:=h;unfold cP at hst;split at hst
     ·simp at hst
     ·rename_i hdraw
      refine⟨fun e=>by subst e;simpa using hdraw,?_⟩;have hp:=(ic hnd hst (draw:=draw)).2;rw[←hl]at hx;split at hx
      ·exact nZ hnd hst hS (fu (m:=[]) hp (fun _ _=>rfl) (by rw[List.append_nil];exact hx))
      ·exact nZ hnd hst hS (fu hp (fun S H=>nh S H) hx)
    ·simp at h
   ·simp at h
  ·split at h
   ·simp at h;obtain⟨rfl,rfl⟩:=h;exact tail st [] hst hds (by simp)
   ·simp at h
 ·split at h
  ·simp at h;obtain⟨rfl,rfl⟩:=h;exact tail _ _ (by assumption) (by assumption) rfl
  ·simp at h
 ·simp at h
end
end Go.Abs
