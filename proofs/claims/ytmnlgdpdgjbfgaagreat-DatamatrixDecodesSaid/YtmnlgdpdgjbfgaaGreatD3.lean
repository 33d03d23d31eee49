/- Lemmas. -/
import Derived.Test.YtmnlgdpdgjbfgaaGreatD2
set_option linter.all false
namespace Go.Abs
abbrev Raw:=Nat->Value
def az(T:Raw):Operand->Value
 | .tmp t=>T t
 | .const v=>v
 | .global g=>.pointer (some ⟨g,0,none⟩)
 | .func f=>.func (.func f) #[] #[]
def eU(T:Raw)(dst:Option Nat)(v:Value):Raw:=
 match dst with
 | some d=>fun t=>if t=d then v else T t
 | none=>T
def tW(T:Raw)(t:Nat)(want:Bool):Bool:=
 match T t with
 | .bool b=>b==want
 | _=>false
def bR(ops:List Oper)(T:Raw)(o:Oper):Bool:=
 match o.guard with
 | none=>true
 | some (j,want)=>match ops[j]? with
  | some oj=>match oj.dst with
   | some t=>tW T t want
   | none=>false
  | none=>false
def bY(P:Program)(callA:dm)(lo:Nat)(ops:List Oper)(raised:Bool)(o:Oper)(T:Raw)(H:Heap):Option (Raw×Heap):=
 if bR ops T o then
  match resolve P o.op with
  | (.l l,xs)=>match aJ l (xs.map (az T)) H with
   | some v=>some (eU T o.dst v,H)
   | none=>none
  | (.h h,xs)=>match hsem callA lo (cD raised h) (xs.map (az T)) H with
   | some (v,H')=>some (eU T o.dst v,H')
   | none=>none
 else some (eU T o.dst undef,H)
def bT(P:Program)(callA:dm)(lo:Nat)(ops:List Oper)(raised:Nat->Bool):List Nat->Raw->Heap->Option (Raw×Heap)
 | [],T,H=>some (T,H)
 | i::r,T,H=>match ops[i]? with
  | some o=>match bY P callA lo ops (raised i) o T H with
   | some (T',H')=>bT P callA lo ops raised r T' H'
   | none=>none
  | none=>none
section
variable {P:Program}{callA:dm}{lo:Nat}{tr:List Nat}{ops:List Oper}{S:List Value}{H:Heap}{T:Raw}
def au(S:List Value)(H:Heap)(pc:PC):Prop:=holds S H pc=some true
theorem dw:au S H []:=rfl
theorem eZ:∀(p q:PC),au S H (p++q)↔au S H p/\au S H q
 | [],q=>by simp[au,holds]
 | (c,want)::p,q=>by
  have ih:=eZ p q;unfold au at ih ⊢;simp only[am₀,holds];split
  ·rename_i b hb
   by_cases h:b=want
   ·simp only[h,if_true];exact ih
   ·simp[h]
  ·simp
theorem j1(c:E)(want:Bool):au S H [(c,want)]↔ev1 S H c=some (.bool want):=by
 unfold au;simp only[holds];split
 ·rename_i b hb
  rw[hb];by_cases h:b=want
  ·simp[h]
  ·simp[h]
 ·rename_i h
  constructor
  ·intro h;simp at h
  ·intro e;exact absurd e (by intro e;exact h want e)
def Bd(S:List Value)(H:Heap)(T:Raw)(x:Ent):Prop:=
 (au S H x.pc->ev1 S H x.e=some (T x.t))/\(¬ au S H x.pc->T x.t=undef)
structure SInv (tr:List Nat)(ops:List Oper)(st:CS):Prop where
 pcs:∀x ∈ st.env,cE ops tr st.env x.g=some x.pc
 uniq:∀x ∈ st.env,st.env.find? (fun y=>y.t==x.t)=some x
 obls:∀x ∈ st.obl,∃y ∈ st.env,y.t=x.t/\y.pc=x.pc/\y.e=x.e/\y.g=x.g
structure Inv (tr:List Nat)(ops:List Oper)(st:CS)(S:List Value)(H:Heap)(T:Raw):Prop extends SInv tr ops st where
 len:S.length=tr.length
 slots:∀(j t:Nat),tr[j]?=some t->kh st.env t=false->S[j]?=some (T t)
 ents:∀x ∈ st.env,Bd S H T x
theorem cu:∀{tr:List Nat} {t j:Nat},idxOf tr t=some j->tr[j]?=some t
 | [],t,j,h=>by simp[idxOf]at h
 | x::r,t,j,h=>by
  unfold idxOf at h;split at h
  ·rename_i e;simp at h;subst h;simp[e]
  ·simp only[aa₀]at h
   obtain⟨k,hk,rfl⟩:=h;simpa using cu hk
theorem m9:∀{tr:List Nat} {t j:Nat},idxOf tr t=none->tr[j]?≠some t
 | [],t,j,_=>by simp
 | x::r,t,j,h=>by
  unfold idxOf at h;split at h
  ·simp at h
  ·rename_i e
   cases j with
   | zero=>simpa using e
   | succ j=>simp only[Option.map_eq_none_iff]at h;simpa using m9 h
theorem gS{env:List Ent}{t:Nat}:kh env t=true↔∃x ∈ env,x.t=t:=by simp[kh]
theorem sP{env:List Ent}{t:Nat}(h:kh env t=false):env.find? (fun x=>x.t==t)=none:=by
 rw[List.find?_eq_none];intro x hx;have:¬ kh env t=true:=by simp[h]
 rw[gS]at this;simp;exact fun e=>this ⟨x,hx,e⟩
theorem wD{st:CS}(hI:Inv tr ops st S H T){t:Nat}{x:Ent}(h:ie tr st.env t=some x):x.t=t/\Bd S H T x/\cE ops tr st.env x.g=some x.pc:=by
 unfold ie at h;split at h
 ·rename_i y hy
  simp at h;subst h;have hm:=List.mem_of_find?_eq_some hy;have ht:=List.find?_some hy;simp at ht;exact⟨ht,hI.ents _ hm,hI.pcs _ hm⟩
 ·rename_i hy
  simp only[aa₀]at h;obtain⟨j,hj,rfl⟩:=h;have hh:kh st.env t=false:=by
   cases hb:kh st.env t with
   | false=>rfl
   | true=>
    obtain⟨x,hx,e⟩:=gS.1 hb;rw[List.find?_eq_none]at hy;exact absurd e (by simpa using hy x hx)
  have:=hI.slots j t (cu hj) hh;refine⟨rfl,⟨fun _=>?_,fun h=>absurd dw h⟩,rfl⟩;simp[ev1,ev,this]
theorem oF{st:CS}(hI:Inv tr ops st S H T){o:Operand}{x:Ent}(h:opE tr st.env o=some x) :
  (au S H x.pc->ev1 S H x.e=some (az T o))/\cE ops tr st.env x.g=some x.pc/\(∀t,bg o=some t->x.t=t/\ie tr st.env t=some x):=by
 cases o<;>simp only[opE]at h
 ·obtain⟨h1,h2,h3⟩:=wD hI h
  rename_i t;refine⟨fun hh=>by rw[h2.1 hh,h1];rfl,h3,fun t' ht=>?_⟩;simp[bg]at ht;subst ht;exact⟨h1,h⟩
 ·split at h
  ·simp at h;subst h;exact⟨fun _=>by simp[ev1,ev,az],rfl,fun t ht=>by simp[bg]at ht⟩
  ·simp at h
 ·simp at h;subst h;exact⟨fun _=>by simp[ev1,ev,az],rfl,fun t ht=>by simp[bg]at ht⟩
 ·simp at h;subst h;exact⟨fun _=>by simp[ev1,ev,az],rfl,fun t ht=>by simp[bg]at ht⟩
theorem pP{st:CS}(hI:Inv tr ops st S H T):∀{xs:List Operand} {es:List Ent},kr tr st.env xs=some es->(∀x ∈ es,au S H x.pc)->ev S H (iS es)=some (xs.map (az T))
 | [],es,h,_=>by simp[kr]at h;subst h;simp[iS,ev]
 | o::xs,es,h,hp=>by
  simp only[kr]at h;split at h
  ·rename_i a ha
   split at h
   ·rename_i l hl
    simp at h;subst h;have h1:=(oF hI ha).1 (hp a (by simp));have h2:=pP hI hl (fun x hx=>hp x (by simp[hx]));have h3:ev S H a.e=some [az T o]:=by
     unfold ev1 at h1;split at h1
     ·rename_i v hv;simp at h1;rw[hv,h1]
     ·simp at h1
    simp[iS,ev,h3,h2]
   ·simp at h
  ·simp at h
theorem D1{st:CS}(hI:SInv tr ops st){t:Nat}{x:Ent}(h:ie tr st.env t=some x):cE ops tr st.env x.g=some x.pc:=by
 unfold ie at h;split at h
 ·rename_i y hy
  simp at h;subst h;exact hI.pcs _ (List.mem_of_find?_eq_some hy)
 ·simp only[aa₀]at h
  obtain⟨j,hj,rfl⟩:=h;rfl
theorem lV{st:CS}(hI:SInv tr ops st){y:Ent}(hy:y ∈ st.env):ie tr st.env y.t=some y:=by
 unfold ie;rw[hI.uniq y hy]
theorem me{st:CS}(hI:SInv tr ops st){o:Operand}{x:Ent}(h:opE tr st.env o=some x):cE ops tr st.env x.g=some x.pc:=by
 cases o<;>simp only[opE]at h
 ·exact D1 hI h
 ·split at h
  ·simp at h;subst h;rfl
  ·simp at h
 ·simp at h;subst h;rfl
 ·simp at h;subst h;rfl
theorem l3{env:List Ent}{o:Operand}{x:Ent}(h:opE tr env o=some x){t:Nat}(ht:bg o=some t):ie tr env t=some x:=by
 cases o<;>simp[bg]at ht;subst ht;exact h
theorem nS{st:CS}(hI:SInv tr ops st):∀{xs:List Operand} {es:List Ent},kr tr st.env xs=some es->∀x ∈ es,cE ops tr st.env x.g=some x.pc
 | [],es,h,x,hx=>by simp[kr]at h;subst h;simp at hx
 | o::xs,es,h,x,hx=>by
  simp only[kr]at h;split at h
  ·rename_i a ha
   split at h
   ·rename_i l hl
    simp at h;subst h;cases hx with
    | head=>exact me hI ha
    | tail _ hx=>exact nS hI hl x hx
   ·simp at h
  ·simp at h
theorem qn{env:List Ent}:∀{xs:List Operand} {es:List Ent},kr tr env xs=some es->∀t,t ∈ xs.filterMap bg->∃x ∈ es,ie tr env t=some x
 | [],es,h,t,ht=>by simp at ht
 | o::xs,es,h,t,ht=>by
  simp only[kr]at h;split at h
  ·rename_i a ha
   split at h
   ·rename_i l hl
    simp at h;subst h;simp only[List.filterMap_cons]at ht;split at ht
    ·obtain⟨x,hx,e⟩:=qn hl t ht;exact⟨x,by simp[hx],e⟩
    ·rename_i t' ht'
     cases ht with
     | head=>exact⟨a,by simp,l3 ha ht'⟩
     | tail _ ht=>obtain⟨x,hx,e⟩:=qn hl t ht;exact⟨x,by simp[hx],e⟩
   ·simp at h
  ·simp at h
theorem pz:∀{es:List Ent} {x:Ent},x ∈ es->(ev S H (iS es)).isSome=true->(ev S H x.e).isSome=true
 | a::r,x,hx,h=>by
  simp only[iS,ev]at h;split at h
  ·rename_i y hy
   split at h
   ·rename_i z hz
    cases hx with
    | head=>simp[hy]
    | tail _ hx=>exact pz hx (by simp[hz])
   ·simp at h
  ·simp at h
theorem iW{st:CS}(hI:Inv tr ops st S H T){o:Oper}{pc:PC}(h:cE ops tr st.env o.guard=some pc):bR ops T o=true↔au S H pc:=by
 unfold cE at h;unfold bR;split at h
 ·rename_i e;simp at h;subst h;simp[e,dw]
 ·rename_i j want e
  split at h
  ·rename_i oj hoj
   split at h
   ·rename_i t ht
    simp only[aa₀]at h;obtain⟨x,hx,rfl⟩:=h;obtain⟨h1,h2,_⟩:=wD hI hx;simp only[e,hoj,ht];rw[eZ,j1,tW,<-h1];by_cases hh:au S H x.pc
    ·have:=h2.1 hh
     simp only[hh,true_and,this,ab₀];split
     ·rename_i b hb;simp[hb]
     ·rename_i hb
      constructor
      ·intro h;simp at h
      ·intro h;exact absurd h (by intro h;exact hb want h)
    ·have:=h2.2 hh
     simp[this,undef,hh]
   ·simp at h
  ·simp at h
theorem ql{st:CS}{g ge:Option (Nat×Bool)}{pc pe:PC}(h:okG g ge=true)(hg:cE ops tr st.env g=some pc)(he:cE ops tr st.env ge=some pe)(hh:au S H pc):au S H pe:=by
 simp only[okG,ar₀,beq_iff_eq]at h;rcases h with rfl|rfl
 ·simp[cE]at he;subst he;exact dw
 ·rw[hg]at he;cases he;exact hh
def dr(S:List Value)(H:Heap)(obl:List Obl):Prop:=∀x ∈ obl,au S H x.pc->(ev S H x.e).isSome=true
theorem uL{env:List Ent}{d:Nat}{new:Ent}(hd:new.t=d){t:Nat}(ht:t≠d):ie tr (new::env) t=ie tr env t:=by
 unfold ie;have:(new.t==t)=false:=by simp[hd];exact fun e=>ht e.symm
 rw[List.find?_cons,this]
theorem qi{env:List Ent}{d:Nat}{new:Ent}(hd:new.t=d){g:Option (Nat×Bool)}(hg:(match g with|some (j,_)=>(match ops[j]? with|some o=>!(o.dst==some d)|none=>true)|none=>true)=true) :
  cE ops tr (new::env) g=cE ops tr env g:=by
 unfold cE;cases g with
 | none=>rfl
 | some q=>
  obtain⟨j,want⟩:=q;simp only at hg ⊢;cases ho:ops[j]? with
  | none=>rfl
  | some o=>
   rw[ho]at hg;simp only at hg ⊢;cases hdst:o.dst with
   | none=>rfl
   | some t=>
    rw[hdst]at hg;simp only;rw[uL hd (by simpa using hg)]
theorem SInv.push{st:CS}(hI:SInv tr ops st){d:Nat}{e:E}{pc:PC}{g:Option (Nat×Bool)}{obl:List Obl}(hn:kh st.env d=false)(hgd:lW ops (⟨d,.nil,[],g⟩::st.env) d=true)
  (hpc:cE ops tr st.env g=some pc) (hsub:∀x ∈ obl,x ∈ st.obl):SInv tr ops { st with env:=⟨d,e,pc,g⟩::st.env,obl:=⟨d,pc,e,g⟩::obl }:=by
 simp only[lW,List.all_cons,ac₀]at hgd;obtain⟨hg1,hg2⟩:=hgd;have hne:∀y ∈ st.env,y.t≠d:=by
  intro y hy e;have:kh st.env d=true:=gS.2 ⟨y,hy,e⟩;rw[hn]at this;simp at this
 refine⟨?_,?_,?_⟩
 ·intro x hx
  cases hx with
  | head=>simp only;rw[qi rfl hg1];exact hpc
  | tail _ hx=>
   simp only;rw[qi rfl (List.all_eq_true.1 hg2 x hx)];exact hI.pcs x hx
 ·intro x hx
  simp only;cases hx with
  | head=>simp
  | tail _ hx=>
   have:(d==x.t)=false:=by simp;exact fun e=>hne x hx e.symm
   rw[List.find?_cons];simp only[this];exact hI.uniq x hx
 ·intro x hx
  cases hx with
  | head=>exact⟨_,List.mem_cons_self ..,rfl,rfl,rfl,rfl⟩
  | tail _ hx=>
   obtain⟨y,hy,r⟩:=hI.obls x (hsub x hx);exact⟨y,List.mem_cons_of_mem _ hy,r⟩
theorem gV{obl:List Obl}{g:Option (Nat×Bool)}{ts:List Nat}:∀x ∈ rest obl g ts,x ∈ obl:=fun _ hx=>(List.mem_filter.1 hx).1
theorem jz{obl:List Obl}(g:Option (Nat×Bool))(ts:List Nat){x:Obl}(hx:x ∈ obl):x ∈ rest obl g ts\/(x.g=g/\x.t ∈ ts):=by
 by_cases h:x.g=g/\x.t ∈ ts
 ·exact .inr h
 ·left
  refine List.mem_filter.2 ⟨hx,?_⟩;simp;rcases Classical.em (x.g=g)with e|e
  ·exact .inr (fun hm=>h ⟨e,hm⟩)
  ·exact .inl e
theorem tK{st:CS}(hI:SInv tr ops st){g:Option (Nat×Bool)}{pc:PC}{xs:List Operand}{es:List Ent}(hpc:cE ops tr st.env g=some pc)(hes:kr tr st.env xs=some es)
  (hall:au S H pc->(ev S H (iS es)).isSome=true) {x:Obl} (hx:x ∈ st.obl) (hg:x.g=g) (ht:x.t ∈ xs.filterMap bg) (hh:au S H x.pc):(ev S H x.e).isSome=true:=by
 obtain⟨y,hy,e1,e2,e3,e4⟩:=hI.obls x hx;obtain⟨z,hz,hl⟩:=qn hes x.t ht;rw[<-e1,lV hI hy]at hl;cases hl;have:pc=x.pc:=by
  have h1:=hI.pcs y hy;rw[e4,hg,hpc]at h1;simp at h1;rw[h1,e2]
 rw[<-e3];exact pz hz (hall (by rw[this];exact hh))
theorem eY{e:E}{v:Value}(h:ev1 S H e=some v):ev S H e=some [v]:=by
 unfold ev1 at h;split at h
 ·rename_i u hu;simp at h;rw[hu,h]
 ·simp at h
theorem eF{e:E}{v:Value}(h:ev S H e=some [v]):ev1 S H e=some v:=by simp[ev1,h]
theorem xr{l:LOp}{es:List Ent}(h:(ev S H (ou l es)).isSome=true):(ev S H (iS es)).isSome=true:=by
 unfold ou at h;split at h
 ·rename_i x
  simp only[iS,ev];cases hx:ev S H x.e with
  | none=>simp[hx]at h
  | some y=>rfl
 ·simp only[ev]at h
  split at h
  ·rename_i vs hvs;simp[hvs]
  ·simp at h
theorem Da{l:LOp}{es:List Ent}{vs:List Value}(hl:l≠.pk)(h:ev S H (iS es)=some vs)(hlen:vs.length=es.length)(hs:(ev S H (ou l es)).isSome=true):∃v,aJ l vs H=some v/\ev1 S H (ou l es)=some v:=by
 unfold ou at hs ⊢;split
 ·rename_i x
  simp only[iS,ev]at h;split at h
  ·rename_i y hy
   simp at h;subst h;simp at hlen;obtain⟨v,rfl⟩:=List.length_eq_one_iff.1 hlen;exact⟨v,rfl,eF hy⟩
  ·simp at h
 ·rename_i hne
  have hs':(ev S H (.node l (iS es))).isSome=true:=by
   split at hs
   ·exact absurd rfl (hne _ rfl)
   ·exact hs
  simp only[ev,h]at hs';split at hs'
  ·rename_i v hv
   refine⟨v,hv,?_⟩;simp[ev1,ev,h,hv]
  ·simp at hs'
theorem Inv.push{st:CS}(hI:Inv tr ops st S H T){d:Nat}{e:E}{pc:PC}{g:Option (Nat×Bool)}{obl:List Obl}{v:Value}(hn:kh st.env d=false)(hgd:lW ops (⟨d,.nil,[],g⟩::st.env) d=true)
  (hpc:cE ops tr st.env g=some pc) (hsub:∀x ∈ obl,x ∈ st.obl) (hv:(au S H pc->ev1 S H e=some v)/\(¬ au S H pc->v=undef)) :
  Inv tr ops { st with env:=⟨d,e,pc,g⟩::st.env,obl:=⟨d,pc,e,g⟩::obl } S H (eU T (some d) v):=by
 have hne:∀y ∈ st.env,y.t≠d:=by
  intro y hy e;have:kh st.env d=true:=gS.2 ⟨y,hy,e⟩;rw[hn]at this;simp at this
 refine⟨SInv.push hI.toSInv hn hgd hpc hsub,hI.len,?_,?_⟩
 ·intro j t ht hh
  have h1:t≠d:=by
   intro e;have:kh (⟨d,‹E›,pc,g⟩::st.env) t=true:=gS.2 ⟨_,List.mem_cons_self ..,e.symm⟩;simp only at hh;rw[this]at hh;simp at hh
  have h2:kh st.env t=false:=by
   cases hb:kh st.env t with
   | false=>rfl
   | true=>
    obtain⟨x,hx,e⟩:=gS.1 hb;have:kh (⟨d,‹E›,pc,g⟩::st.env) t=true:=gS.2 ⟨x,List.mem_cons_of_mem _ hx,e⟩;simp only at hh;rw[this]at hh;simp at hh
  rw[hI.slots j t ht h2];simp[eU,h1]
 ·intro x hx
  cases hx with
  | head=>exact⟨fun h=>by simp[eU,hv.1 h],fun h=>by simp[eU,hv.2 h]⟩
  | tail _ hx=>
   have h1:=hI.ents x hx;have h2:eU T (some d) v x.t=T x.t:=by simp[eU,hne x hx]
   unfold Bd at h1 ⊢;rw[h2];exact h1
theorem wK{env:List Ent}:∀{xs:List Operand} {es:List Ent},kr tr env xs=some es->es.length=xs.length
 | [],es,h=>by simp[kr]at h;subst h;rfl
 | o::xs,es,h=>by
  simp only[kr]at h;split at h
  ·split at h
   ·rename_i l hl;simp at h;subst h;simp[wK hl]
   ·simp at h
  ·simp at h
theorem O4{env:List Ent}{xc xa xb:Operand}{c a b:Ent}(h:kr tr env [xc,xa,xb]=some [c,a,b]):opE tr env xc=some c/\opE tr env xa=some a/\opE tr env xb=some b:=by
 simp only[kr]at h;cases h1:opE tr env xc<;>cases h2:opE tr env xa<;>cases h3:opE tr env xb<;>simp_all
theorem wS{st:CS}{g:Option (Nat×Bool)}{xc:Operand}{c x:Ent}{side:Bool}{pc:PC}(h:ss ops g (bg xc) side x=true)(hc:opE tr st.env xc=some c)
  (hg:cE ops tr st.env g=some pc) (hx:cE ops tr st.env x.g=some x.pc) (hh:au S H pc) (hcp:au S H c.pc) (hv:ev1 S H c.e=some (.bool side)):au S H x.pc:=by
 simp only[ss,ar₀]at h;rcases h with h|h
 ·exact ql h hg hx hh
 ·split at h
  ·rename_i j want hxg
   simp only[ac₀,beq_iff_eq]at h;obtain⟨rfl,h⟩:=h;split at h
   ·rename_i oj hoj
    simp only[ac₀,beq_iff_eq]at h;obtain⟨h1,h2⟩:=h;obtain⟨t,ht⟩:=Option.isSome_iff_exists.1 h2;rw[hxg]at hx;simp only[cE,hoj]at hx;rw[h1,ht]at hx;simp only[l3 hc ht,Option.map_some,ab₀]at hx;rw[<-hx,eZ,j1];exact⟨hcp,hv⟩
   ·simp at h
  ·simp at h
theorem nB{raised:Bool}{st st1:CS}{o:Oper}{l:LOp}{xs:List Operand}(h:nq P tr ops raised st o=some st1)(hr:resolve P o.op=(.l l,xs)) :
  st1.out=st.out/\(SInv tr ops st->SInv tr ops st1/\∀S H,dr S H st1.obl->dr S H st.obl) /\
  ∀S H T,Inv tr ops st S H T->dr S H st1.obl->∃T1,bY P callA lo ops raised o T H=some (T1,H)/\Inv tr ops st1 S H T1:=by
 unfold nq at h;rw[hr]at h;cases hpc:cE ops tr st.env o.guard with
 | none=>rw[hpc]at h;simp at h
 | some pc=>
 rw[hpc]at h;simp only at h;cases hd:o.dst with
 | none=>rw[hd]at h;simp at h
 | some d=>
 rw[hd]at h;simp only at h;split at h
 ·simp at h
 ·rename_i hcond
  simp only[ar₀,Bool.not_eq_true',not_or,Bool.not_eq_true,Bool.not_eq_false]at hcond;obtain⟨hn,hgd⟩:=hcond;split at h
  ·
   rename_i xc xa xb c a b hes;split at h
   ·rename_i hok
    simp only[ac₀]at hok;obtain⟨⟨hok1,hok2⟩,hok3⟩:=hok;simp only[ab₀]at h;obtain⟨hc,ha,hb⟩:=O4 hes;have hsub:∀x ∈ (if okG o.guard b.g || !(c.g==o.guard) then(if okG o.guard a.g || !(c.g==o.guard) then rest st.obl o.guard ((bg xc).toList) else rest (rest st.obl o.guard ((bg xc).toList)) a.g ((bg xa).toList))
      else rest (if okG o.guard a.g || !(c.g==o.guard) then rest st.obl o.guard ((bg xc).toList) else rest (rest st.obl o.guard ((bg xc).toList)) a.g ((bg xa).toList)) b.g ((bg xb).toList)),x ∈ st.obl:=by
     intro x hx;split at hx
     ·split at hx
      ·exact gV x hx
      ·exact gV x (gV x hx)
     ·have hx:=gV x hx
      split at hx
      ·exact gV x hx
      ·exact gV x (gV x hx)
    subst h;refine⟨rfl,fun hI=>⟨SInv.push hI hn hgd hpc hsub,fun S H hob x hx hh=>?_⟩,fun S H T hI hob=>?_⟩
    ·
     have hnew:au S H pc->(ev S H (.pick c.e a.e b.e)).isSome=true:=fun hp=>hob ⟨d,pc,.pick c.e a.e b.e,o.guard⟩ (List.mem_cons_self ..) hp;have hcsome:au S H pc->∃bv,ev S H c.e=some [.bool bv]/\(if bv then(ev S H a.e).isSome=true else(ev S H b.e).isSome=true):=by
      intro hp;have:=hnew hp;simp only[ev]at this;split at this
      ·rename_i hv;exact⟨true,hv,by simpa using this⟩
      ·rename_i hv;exact⟨false,hv,by simpa using this⟩
      ·simp at this
     have side:∀(sd:Bool) (xo:Operand) (z:Ent),opE tr st.env xo=some z->ss ops o.guard (bg xc) sd z=true->okG o.guard z.g=false->c.g=o.guard->x.g=z.g->x.t ∈ (bg xo).toList ->
       (∀bv,ev S H c.e=some [.bool bv]->(if bv then(ev S H a.e).isSome=true else(ev S H b.e).isSome=true)->bv=sd->(ev S H z.e).isSome=true)->(ev S H x.e).isSome=true:=by
      intro sd xo z hz hpg hnok hcg hxg hxt fin;obtain⟨y,hy,e1,e2,e3,e4⟩:=hI.obls x hx;have ht:bg xo=some x.t:=by
       cases hto:bg xo with
       | none=>rw[hto]at hxt;simp at hxt
       | some t=>rw[hto]at hxt;simp at hxt;rw[hxt]
      have hl:=l3 hz ht;rw[<-e1,lV hI hy]at hl;cases hl;simp only[ss,hnok,Bool.false_or]at hpg;split at hpg
      ·rename_i j want hyg
       simp only[ac₀,beq_iff_eq]at hpg;obtain⟨rfl,hpg⟩:=hpg;split at hpg
       ·rename_i oj hoj
        simp only[ac₀,beq_iff_eq]at hpg;obtain⟨h1,h2⟩:=hpg;obtain⟨t,ht2⟩:=Option.isSome_iff_exists.1 h2;have hyp:=hI.pcs z hy;rw[hyg]at hyp;simp only[cE,hoj]at hyp;rw[h1,ht2]at hyp;simp only[l3 hc ht2,Option.map_some,ab₀]at hyp;rw[<-e2,<-hyp,eZ,j1]at hh;have hcpc:=me hI hc;rw[hcg,hpc]at hcpc;simp at hcpc;obtain⟨bv,hb1,hb2⟩:=hcsome (by rw[hcpc];exact hh.1);have hb3:=eF hb1;rw[hh.2]at hb3;simp at hb3;rw[<-e3];exact fin bv hb1 hb2 hb3.symm
       ·simp at hpg
      ·simp at hpg
     rcases jz o.guard ((bg xc).toList) hx with h1|⟨h1,h2⟩
     ·
      by_cases hA:okG o.guard a.g || !(c.g==o.guard)
      ·by_cases hB:okG o.guard b.g || !(c.g==o.guard)
       ·exact hob x (List.mem_cons_of_mem _ (by simp only[hA,hB,if_true];exact h1)) hh
       ·rcases jz b.g ((bg xb).toList) h1 with h3|⟨h3,h4⟩
        ·exact hob x (List.mem_cons_of_mem _ (by simp only[hA,hB,if_true];exact h3)) hh
        ·simp only[ar₀,not_or,Bool.not_eq_true,Bool.not_eq_eq_eq_not,Bool.not_true]at hB
         exact side false xb b hb hok3 hB.1 (by simpa using hB.2) h3 h4 (fun bv _ hz e=>by subst e;simpa using hz)
      ·rcases jz a.g ((bg xa).toList) h1 with h3|⟨h3,h4⟩
       ·by_cases hB:okG o.guard b.g || !(c.g==o.guard)
        ·exact hob x (List.mem_cons_of_mem _ (by simp only[hA,hB,if_true];exact h3)) hh
        ·rcases jz b.g ((bg xb).toList) h3 with h5|⟨h5,h6⟩
         ·exact hob x (List.mem_cons_of_mem _ (by simp only[hA,hB];exact h5)) hh
         ·simp only[ar₀,not_or,Bool.not_eq_true,Bool.not_eq_eq_eq_not,Bool.not_true]at hB
          exact side false xb b hb hok3 hB.1 (by simpa using hB.2) h5 h6 (fun bv _ hz e=>by subst e;simpa using hz)
       ·simp only[ar₀,not_or,Bool.not_eq_true,Bool.not_eq_eq_eq_not,Bool.not_true]at hA
        exact side true xa a ha hok2 hA.1 (by simpa using hA.2) h3 h4 (fun bv _ hz e=>by subst e;simpa using hz)
     ·obtain⟨y,hy,e1,e2,e3,e4⟩:=hI.obls x hx
      have ht:bg xc=some x.t:=by
       cases hto:bg xc with
       | none=>rw[hto]at h2;simp at h2
       | some t=>rw[hto]at h2;simp at h2;rw[h2]
      have hl:=l3 hc ht;rw[<-e1,lV hI hy]at hl;cases hl;have hyp:=hI.pcs c hy;rw[e4,h1,hpc]at hyp;simp at hyp;obtain⟨bv,hb1,_⟩:=hcsome (by rw[hyp,e2];exact hh);rw[<-e3,hb1];rfl
    ·
     have hnew:au S H pc->(ev S H (.pick c.e a.e b.e)).isSome=true:=fun hp=>hob ⟨d,pc,.pick c.e a.e b.e,o.guard⟩ (List.mem_cons_self ..) hp;by_cases hp:au S H pc
     ·have hcp:=ql hok1 hpc (me hI.toSInv hc) hp
      have hcv:=(oF hI hc).1 hcp;have hs:=hnew hp;simp only[ev,eY hcv]at hs;have hbool:∃bv,az T xc=.bool bv:=by
       split at hs
       ·rename_i e;simp at e;exact⟨true,e⟩
       ·rename_i e;simp at e;exact⟨false,e⟩
       ·simp at hs
      obtain⟨bv,hbv⟩:=hbool;rw[hbv]at hcv;have val:ev1 S H (.pick c.e a.e b.e)=some (if bv then az T xa else az T xb):=by
       have hev:=eY hcv;cases bv
       ·have:=(oF hI hb).1 (wS hok3 hc hpc (me hI.toSInv hb) hp hcp hcv)
        simp only[ev1,ev,hev,eY this];rfl
       ·have:=(oF hI ha).1 (wS hok2 hc hpc (me hI.toSInv ha) hp hcp hcv)
        simp only[ev1,ev,hev,eY this];rfl
      refine⟨eU T (some d) (if bv then az T xa else az T xb),?_,Inv.push hI hn hgd hpc hsub ⟨fun _=>val,fun h=>absurd hp h⟩⟩;have hw:=(iW hI hpc).2 hp;simp only[bY,hw,if_true,hr,ag₀,al₀,hbv,aJ,hd]
     ·have hw:bR ops T o=false:=by
       cases hb:bR ops T o with
       | false=>rfl
       | true=>exact absurd ((iW hI hpc).1 hb) hp
      exact⟨eU T (some d) undef,by simp[bY,hw,hd],Inv.push hI hn hgd hpc hsub ⟨fun h=>absurd h hp,fun _=>rfl⟩⟩
   ·simp at h
  ·simp at h
  ·rename_i l xs l0 xs0 oes es hnpk hnp1 hes
   split at h
   ·rename_i hok
    simp only[ab₀]at h;have hsub:∀x ∈ rest st.obl o.guard (xs.filterMap bg),x ∈ st.obl:=gV;subst h;refine⟨rfl,fun hI=>⟨SInv.push hI hn hgd hpc hsub,fun S H hob x hx hh=>?_⟩,fun S H T hI hob=>?_⟩
    ·rcases jz o.guard (xs.filterMap bg) hx with h1|⟨h1,h2⟩
     ·exact hob x (List.mem_cons_of_mem _ h1) hh
     ·exact tK hI hpc hes (fun hp=>xr (hob ⟨d,pc,ou l es,o.guard⟩ (List.mem_cons_self ..) hp)) hx h1 h2 hh
    ·by_cases hp:au S H pc
     ·have hall:∀x ∈ es,au S H x.pc:=fun x hx=>ql (List.all_eq_true.1 hok x hx) hpc (nS hI.toSInv hes x hx) hp
      have hev:=pP hI hes hall;have hlk:l≠.pk:=by
       intro e;subst e;exact hnpk rfl
      obtain⟨v,hv1,hv2⟩:=Da hlk hev (by simp[wK hes]) (hob ⟨d,pc,ou l es,o.guard⟩ (List.mem_cons_self ..) hp);refine⟨eU T (some d) v,?_,Inv.push hI hn hgd hpc hsub ⟨fun _=>hv2,fun h=>absurd hp h⟩⟩;have hw:=(iW hI hpc).2 hp;simp only[bY,hw,if_true,hr,hv1,hd]
     ·have hw:bR ops T o=false:=by
       cases hb:bR ops T o with
       | false=>rfl
       | true=>exact absurd ((iW hI hpc).1 hb) hp
      exact⟨eU T (some d) undef,by simp[bY,hw,hd],Inv.push hI hn hgd hpc hsub ⟨fun h=>absurd h hp,fun _=>rfl⟩⟩
   ·simp at h
  ·simp at h
end
section
variable {P:Program}{callA:CallR}{lo n:Nat}{tr:List Nat}{ops:List Oper}{S:List Value}{H:Heap}{T:Raw}
def Nd(tr:List Nat):Prop:=∀(i j t:Nat),tr[i]?=some t->tr[j]?=some t->i=j
theorem mB{els e:E}:∀{pc:PC} {v:Value},ev1 S H (jf els pc e)=some v->(au S H pc->ev1 S H e=some v)/\(¬ au S H pc->ev1 S H els=some v)
 | [],v,h=>⟨fun _=>h,fun hh=>absurd dw hh⟩
 | (c,want)::r,v,h=>by
  have hsplit:au S H ((c,want)::r)↔ev1 S H c=some (.bool want)/\au S H r:=by
   rw[<-j1 c want,<-eZ];rfl
  cases want
  ·simp only[jf]at h
   have h':(match ev S H c with|some [.bool true]=>ev S H els|some [.bool false]=>ev S H (jf els r e)|_=>none)=some [v]:=eY h;split at h'
   ·rename_i hc
    have:¬ au S H ((c,false)::r):=by rw[hsplit];intro hh;have:=eF hc;rw[hh.1]at this;simp at this
    exact⟨fun hh=>absurd hh this,fun _=>eF h'⟩
   ·rename_i hc
    obtain⟨h1,h2⟩:=mB (eF h');have e:au S H ((c,false)::r)↔au S H r:=by rw[hsplit];exact⟨fun hh=>hh.2,fun hh=>⟨eF hc,hh⟩⟩
    rw[e];exact⟨h1,h2⟩
   ·simp at h'
  ·simp only[jf]at h
   have h':(match ev S H c with|some [.bool true]=>ev S H (jf els r e)|some [.bool false]=>ev S H els|_=>none)=some [v]:=eY h;split at h'
   ·rename_i hc
    obtain⟨h1,h2⟩:=mB (eF h');have e:au S H ((c,true)::r)↔au S H r:=by rw[hsplit];exact⟨fun hh=>hh.2,fun hh=>⟨eF hc,hh⟩⟩
    rw[e];exact⟨h1,h2⟩
   ·rename_i hc
    have:¬ au S H ((c,true)::r):=by rw[hsplit];intro hh;have:=eF hc;rw[hh.1]at this;simp at this
    exact⟨fun hh=>absurd hh this,fun _=>eF h'⟩
   ·simp at h'
theorem rV{els e:E}:∀{pc:PC},(ev S H (jf els pc e)).isSome=true->au S H pc->(ev S H e).isSome=true
 | [],h,_=>h
 | (c,want)::r,h,hh=>by
  have hsplit:au S H ((c,want)::r)↔ev1 S H c=some (.bool want)/\au S H r:=by
   rw[<-j1 c want,<-eZ];rfl
  rw[hsplit]at hh;have hc:=eY hh.1;cases want<;>simp only[jf,ev,hc]at h<;>exact rV h hh.2
theorem mY:∀{l:List (Nat×E)} {vs:List (Nat×Value)},evSets S H l=some vs->(∀q ∈ l,∃v,ev1 S H q.2=some v/\(q.1,v) ∈ vs)/\∀q ∈ vs,∃e,(q.1,e) ∈ l/\ev1 S H e=some q.2
 | [],vs,h=>by simp[evSets]at h;subst h;simp
 | (j,e)::r,vs,h=>by
  simp only[evSets]at h;split at h
  ·rename_i v hv
   split at h
   ·rename_i l hl
    simp at h;subst h;obtain⟨h1,h2⟩:=mY hl;refine⟨fun q hq=>?_,fun q hq=>?_⟩
    ·cases hq with
     | head=>exact⟨v,hv,by simp⟩
     | tail _ hq=>obtain⟨u,a,b⟩:=h1 q hq;exact⟨u,a,by simp[b]⟩
    ·cases hq with
     | head=>exact⟨e,by simp,hv⟩
     | tail _ hq=>obtain⟨u,a,b⟩:=h2 q hq;exact⟨u,by simp[a],b⟩
   ·simp at h
  ·simp at h
theorem sL:∀{l:List E},evChk S H l=true->∀e ∈ l,(ev S H e).isSome=true
 | [],_,e,he=>by simp at he
 | a::r,h,e,he=>by
  simp only[evChk,ac₀]at h;cases he with
  | head=>exact h.1
  | tail _ he=>exact sL h.2 e he
theorem iu:∀(vs:List (Nat×Value)) (S:List Value),(setAll S vs).length=S.length
 | [],_=>rfl
 | (j,v)::r,S=>by rw[setAll,iu r];simp
theorem rL{j:Nat}{u:Value}:∀(vs:List (Nat×Value)) (S:List Value),j<S.length->(∀q ∈ vs,q.1=j->q.2=u)->((∃q ∈ vs,q.1=j)\/S[j]?=some u)->(setAll S vs)[j]?=some u
 | [],S,_,_,h=>by
  rcases h with ⟨q,hq,_⟩|h
  ·simp at hq
  ·exact h
 | (i,v)::r,S,hj,hall,h=>by
  rw[setAll];refine rL r (S.set i v) (by simpa using hj) (fun q hq=>hall q (by simp[hq])) ?_;by_cases hi:i=j
  ·subst hi
   right;have:=hall (i,v) (by simp) rfl;simp at this;simp[this,hj]
  ·rcases h with ⟨q,hq,e⟩|h
   ·cases hq with
    | head=>exact absurd e hi
    | tail _ hq=>exact .inl ⟨q,hq,e⟩
   ·right;rw[List.getElem?_set_ne hi];exact h
theorem x6{env:List Ent}{j:Nat}{e:E}(h:(j,e) ∈ fZ tr env):∃x ∈ env,idxOf tr x.t=some j/\e=jf (.cst undef) x.pc x.e:=by
 simp only[fZ,List.mem_filterMap,aa₀,ad₀]at h;obtain⟨x,hx,k,hk,rfl,rfl⟩:=h;exact⟨x,hx,hk,rfl⟩
theorem jr{env:List Ent}{x:Ent}(hx:x ∈ env){j:Nat}(hj:idxOf tr x.t=some j):(j,jf (.cst undef) x.pc x.e) ∈ fZ tr env:=by
 simp only[fZ,List.mem_filterMap];exact⟨x,hx,by simp[hj]⟩
theorem jE(hnd:Nd tr){st:CS}(hI:Inv tr ops st S H T){vs:List (Nat×Value)}(h:evSets S H (fZ tr st.env)=some vs){j t:Nat}(ht:tr[j]?=some t):(setAll S vs)[j]?=some (T t):=by
 obtain⟨h1,h2⟩:=mY h;have hj:j<S.length:=by rw[hI.len];exact(List.getElem?_eq_some_iff.1 ht).1
 refine rL vs S hj (fun q hq e=>?_) ?_
 ·obtain⟨e',he,hv⟩:=h2 q hq
  obtain⟨x,hx,hi,rfl⟩:=x6 he;have hxt:x.t=t:=by
   have:=cu hi;rw[e,ht]at this;simpa using this.symm
  obtain⟨a,b⟩:=mB hv;have hent:=hI.ents x hx;by_cases hp:au S H x.pc
  ·have:=hent.1 hp;rw[a hp]at this;simp at this;rw[this,hxt]
  ·have:=b hp;simp[ev1,ev]at this;rw[<-this,<-hxt];exact(hent.2 hp).symm
 ·cases hb:kh st.env t with
  | false=>exact .inr (hI.slots j t ht hb)
  | true=>
   left;obtain⟨x,hx,e⟩:=gS.1 hb;cases hi:idxOf tr x.t with
   | none=>exact absurd ht (by rw[<-e];exact m9 hi)
   | some k=>
    have hk:k=j:=hnd k j t (by rw[<-e];exact cu hi) ht;obtain⟨v,_,hv⟩:=h1 _ (jr hx hi);exact⟨_,hv,hk⟩
theorem sQ{st:CS}(hI:SInv tr ops st){vs:List (Nat×Value)}(h:evSets S H (fZ tr st.env)=some vs){x:Obl}(hx:x ∈ st.obl)(hi:(idxOf tr x.t).isSome=true)(hh:au S H x.pc):(ev S H x.e).isSome=true:=by
 obtain⟨y,hy,e1,e2,e3,e4⟩:=hI.obls x hx;obtain⟨j,hj⟩:=Option.isSome_iff_exists.1 hi;rw[<-e1]at hj;obtain⟨v,hv,_⟩:=(mY h).1 _ (jr hy hj);have:=(mB hv).1 (by rw[e2];exact hh);rw[<-e3,eY this];rfl
theorem tZ{obl:List Obl}(h:evChk S H (AY obl)=true){x:Obl}(hx:x ∈ obl)(hh:au S H x.pc):(ev S H x.e).isSome=true:=
 rV (sL h _ (List.mem_map.2 ⟨x,hx,rfl⟩)) hh
def dY:Stm->Bool
 | .sets _ _ | .hv .. | .dist _ _=>true
 | _=>false
def cC(callA:CallR)(lo n:Nat):List Stm->List Value->Heap->Option (List Value×Heap)
 | [],S,H=>some (S,H)
 | s::r,S,H=>match exec callA lo n s S H with
  | some (.normal,S',H')=>cC callA lo n r S' H'
  | _=>none
theorem jk(hnd:Nd tr){raised:Bool}{st st1:CS}{o:Oper}{h:HOp}{xs:List Operand}(hc:nq P tr ops raised st o=some st1)(hr:resolve P o.op=(.h h,xs)) :
  ∃s,st1.out=s::st.out/\st1.env=[]/\st1.obl=[]/\dY s=true /\
   (SInv tr ops st->∀S H r,exec callA lo n s S H=some r->dr S H st.obl) /\
   (∀S H T S' H',Inv tr ops st S H T->exec callA lo n s S H=some (.normal,S',H')->∃T',bY P callA.ret lo ops raised o T H=some (T',H')/\Inv tr ops st1 S' H' T') /\
   ∀S H T j S' H',Inv tr ops st S H T->exec callA lo n s S H=some (.exit j,S',H')->∃p S1,S'=p::S1/\j=cF/\S1.length=tr.length/\(∀(j t:Nat),tr[j]?=some t->S1[j]?=some (T t))/\bR ops T o=true/\cm callA lo (cD raised h) (xs.map (az T)) H=some (p,H'):=by
 unfold nq at hc;rw[hr]at hc;cases hpc:cE ops tr st.env o.guard with
 | none=>rw[hpc]at hc;simp at hc
 | some pc=>
 rw[hpc]at hc;simp only at hc;split at hc
 ·rename_i es hes
  split at hc
  ·rename_i hok
   simp only[ab₀]at hc;subst hc;refine⟨_,rfl,rfl,rfl,rfl,fun hI S H r hx=>?_,fun S H T S' H' hI hx=>?_,fun S H T j S' H' hI hx=>?_⟩
   ·intro x hxo hh
    simp only[exec]at hx;split at hx
    ·rename_i vs hvs
     split at hx
     ·rename_i hchk
      by_cases hi:(idxOf tr x.t).isSome=true
      ·exact sQ hI hvs hxo hi hh
      ·have hx1:x ∈ st.obl.filter fun x=>!(idxOf tr x.t).isSome:=List.mem_filter.2 ⟨hxo,by simpa using hi⟩
       rcases jz o.guard (xs.filterMap bg) hx1 with h1|⟨h1,h2⟩
       ·exact tZ hchk h1 hh
       ·refine tK hI hpc hes (fun hp=>?_) hxo h1 h2 hh
        rw[show holds S H pc=some true from hp]at hx;simp only at hx;split at hx
        ·rename_i ys hys;simp[hys]
        ·simp at hx
     ·simp at hx
    ·simp at hx
   ·simp only[exec]at hx
    split at hx
    ·rename_i vs hvs
     split at hx
     ·
      have slots:∀(v:Value) (S2:List Value),S2=(match o.dst.bind (idxOf tr)with|some d=>(setAll S vs).set d v|none=>setAll S vs)->Inv tr ops { out:=(Stm.hv (fZ tr st.env) (AY (rest (st.obl.filter fun x=>!(idxOf tr x.t).isSome) o.guard (xs.filterMap bg))) pc (o.dst.bind (idxOf tr)) (cD raised h) (iS es))::st.out,env:=[],obl:=[] } S2 H' (eU T o.dst v):=by
       intro v S2 hS2;refine⟨⟨by simp,by simp,by simp⟩,?_,?_,by simp⟩
       ·rw[hS2];split<;>simp[iu,hI.len]
       ·intro j t ht _
        have hj:j<(setAll S vs).length:=by rw[iu,hI.len];exact(List.getElem?_eq_some_iff.1 ht).1
        have hf:=jE hnd hI hvs ht;rw[hS2];cases hd:o.dst with
        | none=>simp[eU,hf]
        | some d=>
         simp only[ao₀];cases hi:idxOf tr d with
         | none=>
          have:t≠d:=fun e=>m9 hi (by rw[<-e];exact ht);simp[eU,this,hf]
         | some k=>
          simp only;by_cases hkj:k=j
          ·subst hkj
           have:=cu hi;rw[ht]at this;simp at this;subst this;simp[eU,hj]
          ·have:t≠d:=by
            intro e;subst e;exact hkj (hnd k j _ (cu hi) ht)
           rw[List.getElem?_set_ne hkj,hf];simp[eU,this]
      split at hx
      ·rename_i hp
       have hall:∀x ∈ es,au S H x.pc:=fun x hx=>ql (List.all_eq_true.1 hok x hx) hpc (nS hI.toSInv hes x hx) hp;rw[pP hI hes hall]at hx;simp only at hx;split at hx
       ·rename_i v H1 hsem
        simp only[ab₀,ad₀,true_and]at hx;obtain⟨rfl,rfl⟩:=hx;refine⟨eU T o.dst v,?_,slots v _ rfl⟩;have hw:=(iW hI hpc).2 hp;simp only[bY,hw,if_true,hr,hsem]
       ·split at hx
        ·simp at hx
        ·simp at hx
      ·rename_i hp
       simp only[ab₀,ad₀,true_and]at hx;obtain⟨rfl,rfl⟩:=hx;have hnp:¬ au S H pc:=by unfold au;rw[hp];simp
       have hw:bR ops T o=false:=by
        cases hb:bR ops T o with
        | false=>rfl
        | true=>exact absurd ((iW hI hpc).1 hb) hnp
       exact⟨eU T o.dst undef,by simp[bY,hw],slots undef _ rfl⟩
      ·simp at hx
     ·simp at hx
    ·simp at hx
   ·simp only[exec]at hx
    split at hx
    ·rename_i vs hvs
     split at hx
     ·split at hx
      ·rename_i hp
       have hall:∀x ∈ es,au S H x.pc:=fun x hx=>ql (List.all_eq_true.1 hok x hx) hpc (nS hI.toSInv hes x hx) hp;rw[pP hI hes hall]at hx;simp only at hx;split at hx
       ·simp at hx
       ·split at hx
        ·rename_i v H1 hsem
         simp only[ab₀,ad₀]at hx;obtain⟨hj,rfl,rfl⟩:=hx;cases hj;refine⟨v,_,rfl,rfl,by rw[iu];exact hI.len,fun j t ht=>jE hnd hI hvs ht,(iW hI hpc).2 hp,hsem⟩
        ·simp at hx
      ·simp at hx
      ·simp at hx
     ·simp at hx
    ·simp at hx
  ·simp at hc
 ·simp at hc
def cR(callA:CallR)(lo n:Nat):List Stm->List Value->Heap->Option (Value×List Value×Heap)
 | [],_,_=>none
 | s::r,S,H=>match exec callA lo n s S H with
  | some (.normal,S',H')=>cR callA lo n r S' H'
  | some (.exit j,p::S',H')=>if j=cF then some (p,S',H') else none
  | _=>none
theorem fw(hnd:Nd tr){raised:Nat->Bool}:∀(l:List Nat) (st st':CS),dd P tr ops raised l st=some st'->∃R,st'.out=R++st.out/\(∀s ∈ R,dY s=true) /\
  (SInv tr ops st->SInv tr ops st') /\
  (SInv tr ops st->∀S H (fin:List Value->Heap->Prop),(∀S1 H1,fin S1 H1->dr S1 H1 st'.obl)->(∃S1 H1,cC callA lo n R.reverse S H=some (S1,H1)/\fin S1 H1)->dr S H st.obl) /\
  ∀S H T S' H',Inv tr ops st S H T->cC callA lo n R.reverse S H=some (S',H')->dr S' H' st'.obl->∃T',bT P callA.ret lo ops raised l T H=some (T',H')/\Inv tr ops st' S' H' T'
 | [],st,st',h=>by
  simp[dd]at h;subst h;refine⟨[],rfl,by simp,id,fun _ S H fin hf ⟨S1,H1,hx,hfin⟩=>?_,fun S H T S' H' hI hx _=>?_⟩
  ·simp[cC]at hx;obtain⟨rfl,rfl⟩:=hx;exact hf _ _ hfin
  ·simp[cC]at hx;obtain⟨rfl,rfl⟩:=hx;exact⟨T,rfl,hI⟩
 | i::l,st,st',h=>by
  simp only[dd]at h;split at h
  ·rename_i o ho
   split at h
   ·rename_i st1 h1
    obtain⟨R,e1,e2,e3,e4,e5⟩:=fw hnd l st1 st' h;cases hr:resolve P o.op with
    | mk rop xs=>
    cases rop with
    | l lo'=>
     obtain⟨f1,f2,f3⟩:=nB (callA:=callA.ret) (lo:=lo) h1 hr;refine⟨R,by rw[e1,f1],e2,fun hI=>e3 (f2 hI).1,fun hI S H fin hf hx=>(f2 hI).2 S H (e4 (f2 hI).1 S H fin hf hx),fun S H T S' H' hI hx hob=>?_⟩;have hob1:dr S H st1.obl:=e4 (f2 hI.toSInv).1 S H (fun a b=>a=S'/\b=H') (fun a b ⟨ha,hb⟩=>by rw[ha,hb];exact hob) ⟨S',H',hx,rfl,rfl⟩;obtain⟨T1,g1,g2⟩:=f3 S H T hI hob1;obtain⟨T',g3,g4⟩:=e5 S H T1 S' H' g2 hx hob;exact⟨T',by simp only[bT,ho,g1,g3],g4⟩
    | h hop=>
     obtain⟨s,f1,f2,f3,f4,f5,f6,_⟩:=jk (callA:=callA) (lo:=lo) (n:=n) hnd h1 hr;have hI1:SInv tr ops st1:=⟨by rw[f2];simp,by rw[f2];simp,by rw[f3];simp⟩;refine⟨R++[s],by rw[e1,f1];simp,?_,fun _=>e3 hI1,fun hI S H fin hf ⟨S1,H1,hx,hfin⟩=>?_,fun S H T S' H' hI hx hob=>?_⟩
     ·intro x hx
      rcases List.mem_append.1 hx with hx|hx
      ·exact e2 x hx
      ·simp at hx;rw[hx];exact f4
     ·simp only[List.reverse_append,List.reverse_cons,List.reverse_nil,List.nil_append,List.singleton_append,cC]at hx
      split at hx
      ·rename_i S2 H2 hs;exact f5 hI S H _ hs
      ·simp at hx
     ·simp only[List.reverse_append,List.reverse_cons,List.reverse_nil,List.nil_append,List.singleton_append,cC]at hx
      split at hx
      ·rename_i S2 H2 hs
       obtain⟨T1,g1,g2⟩:=f6 S H T S2 H2 hI hs;obtain⟨T',g3,g4⟩:=e5 S2 H2 T1 S' H' g2 hx hob;exact⟨T',by simp only[bT,ho,g1,g3],g4⟩
      ·simp at hx
   ·simp at h
  ·simp at h
def KC(P:Program)(callA:CallR)(lo:Nat)(ops:List Oper)(raised:Nat->Bool)(l:List Nat)(T:Raw)(H:Heap)(p:Value)(T1:Raw)(H':Heap):Prop:=
 ∃l1 i l2 H1 o h xs,l=l1++i::l2/\bT P callA.ret lo ops raised l1 T H=some (T1,H1)/\ops[i]?=some o/\bR ops T1 o=true/\resolve P o.op=(.h h,xs)/\cm callA lo (cD (raised i) h) (xs.map (az T1)) H1=some (p,H')
theorem o5(hnd:Nd tr){raised:Nat->Bool}:∀(l:List Nat) (st st':CS),dd P tr ops raised l st=some st'->∃R,st'.out=R++st.out /\
  (SInv tr ops st->∀S H r,cR callA lo n R.reverse S H=some r->dr S H st.obl) /\
  ∀S H T p S' H',Inv tr ops st S H T->cR callA lo n R.reverse S H=some (p,S',H')->∃T1,S'.length=tr.length/\(∀(j t:Nat),tr[j]?=some t->S'[j]?=some (T1 t))/\KC P callA lo ops raised l T H p T1 H'
 | [],st,st',h=>by
  simp[dd]at h;subst h;exact⟨[],rfl,fun _ S H r hx=>by simp[cR]at hx,fun S H T p S' H' hI hx=>by simp[cR]at hx⟩
 | i::l,st,st',h=>by
  simp only[dd]at h;split at h
  ·rename_i o ho
   split at h
   ·rename_i st1 h1
    obtain⟨R,e1,e4,e5⟩:=o5 hnd l st1 st' h;cases hr:resolve P o.op with
    | mk rop xs=>
    cases rop with
    | l lo'=>
     obtain⟨f1,f2,f3⟩:=nB (callA:=callA.ret) (lo:=lo) h1 hr;refine⟨R,by rw[e1,f1],fun hI S H r hx=>(f2 hI).2 S H (e4 (f2 hI).1 S H r hx),fun S H T p S' H' hI hx=>?_⟩;have hob1:dr S H st1.obl:=e4 (f2 hI.toSInv).1 S H _ hx;obtain⟨T1,g1,g2⟩:=f3 S H T hI hob1;obtain⟨T2,g3,g4,l1,i',l2,H1,o',h',xs',q1,q2,q3⟩:=e5 S H T1 p S' H' g2 hx;exact⟨T2,g3,g4,i::l1,i',l2,H1,o',h',xs',by rw[q1];rfl,by simp only[bT,ho,g1,q2],q3⟩
    | h hop=>
     obtain⟨s,f1,f2,f3,f4,f5,f6,f7⟩:=jk (callA:=callA) (lo:=lo) (n:=n) hnd h1 hr;refine⟨R++[s],by rw[e1,f1];simp,fun hI S H r hx=>?_,fun S H T p S' H' hI hx=>?_⟩
     ·simp only[List.reverse_append,List.reverse_cons,List.reverse_nil,List.nil_append,List.singleton_append,cR]at hx
      split at hx
      ·rename_i S2 H2 hs;exact f5 hI S H _ hs
      ·rename_i j p' S2 H2 hs;exact f5 hI S H _ hs
      ·simp at hx
     ·simp only[List.reverse_append,List.reverse_cons,List.reverse_nil,List.nil_append,List.singleton_append,cR]at hx
      split at hx
      ·rename_i S2 H2 hs
       obtain⟨T1,g1,g2⟩:=f6 S H T S2 H2 hI hs;obtain⟨T2,g3,g4,l1,i',l2,H1,o',h',xs',q1,q2,q3⟩:=e5 S2 H2 T1 p S' H' g2 hx;exact⟨T2,g3,g4,i::l1,i',l2,H1,o',h',xs',by rw[q1];rfl,by simp only[bT,ho,g1,q2],q3⟩
      ·rename_i j p' S2 H2 hs
       obtain⟨p2,S3,e,hj,k1,k2,k3,k4⟩:=f7 S H T j _ H2 hI hs;rw[if_pos hj]at hx;simp only[ab₀,ad₀]at hx;obtain⟨rfl,rfl,rfl⟩:=hx;simp only[List.cons.injEq]at e;obtain⟨rfl,rfl⟩:=e;exact⟨T,k1,k2,[],i,l,H,o,hop,xs,rfl,rfl,ho,k3,hr,k4⟩
      ·simp at hx
   ·simp at h
  ·simp at h
end
section
variable {P:Program}{callA:CallR}{lo n:Nat}{tr:List Nat}{S:List Value}{H:Heap}{T:Raw}
theorem jx{s:Stm}(h:dY s=true){S':List Value}{H':Heap}{ex:Ex}(hx:exec callA lo n s S H=some (ex,S',H')):ex=.normal\/(ex=.exit cF/\∃p S1,S'=p::S1):=by
 cases s<;>simp[dY]at h
 ·simp only[exec]at hx
  repeat' (split at hx)
  all_goals (first|(simp at hx;done)|(simp at hx;exact .inl hx.1.symm))
 ·simp only[exec]at hx
  repeat' (split at hx)
  all_goals (first|(simp at hx;done)|(simp at hx;exact .inl hx.1.symm)|(simp at hx;exact .inr ⟨hx.1.symm,_,_,hx.2.1.symm⟩))
 ·simp only[exec]at hx
  repeat' (split at hx)
  all_goals (first|(simp at hx;done)|(simp at hx;exact .inl hx.1.symm))
theorem oe:∀{l:List Stm},(∀s ∈ l,dY s=true)->∀{S S':List Value} {H H':Heap} {ex:Ex},exec callA lo n (df l) S H=some (ex,S',H') ->
  (ex=.normal/\cC callA lo n l S H=some (S',H'))\/(ex=.exit cF/\∃p S1,S'=p::S1/\cR callA lo n l S H=some (p,S1,H'))
 | [],_,S,S',H,H',ex,h=>by simp[df,exec]at h;obtain⟨rfl,rfl,rfl⟩:=h;exact .inl ⟨rfl,rfl⟩
 | [s],hp,S,S',H,H',ex,h=>by
  simp only[df]at h;rcases jx (hp s (by simp)) h with rfl|⟨rfl,p,S1,rfl⟩
  ·exact .inl ⟨rfl,by simp[cC,h]⟩
  ·exact .inr ⟨rfl,p,S1,rfl,by simp[cR,h]⟩
 | s::t::r,hp,S,S',H,H',ex,h=>by
  simp only[df,exec]at h;split at h
  ·rename_i S1 H1 hs
   rcases oe (l:=t::r) (fun x hx=>hp x (by simp at hx ⊢;exact .inr hx)) h with ⟨h1,h2⟩|⟨h1,p,S2,h2,h3⟩
   ·exact .inl ⟨h1,by rw[cC,hs];exact h2⟩
   ·exact .inr ⟨h1,p,S2,h2,by rw[cR,hs];exact h3⟩
  ·rename_i hne
   rcases jx (hp s (by simp)) h with rfl|⟨rfl,p,S1,rfl⟩
   ·exact absurd h (hne _ _)
   ·exact .inr ⟨rfl,p,S1,rfl,by simp[cR,h]⟩
theorem kL{c:Stm}:∀{l:List Stm},(∀s ∈ l,dY s=true)->∀{S S':List Value} {H H':Heap} {ex:Ex},exec callA lo n (df (l++[c])) S H=some (ex,S',H') ->
  (∃S1 H1,cC callA lo n l S H=some (S1,H1)/\exec callA lo n c S1 H1=some (ex,S',H'))\/(ex=.exit cF/\∃p S1,S'=p::S1/\cR callA lo n l S H=some (p,S1,H'))
 | [],_,S,S',H,H',ex,h=>.inl ⟨S,H,rfl,h⟩
 | [s],hp,S,S',H,H',ex,h=>by
  simp only[am₀,List.nil_append,df,exec]at h;split at h
  ·rename_i S1 H1 hs;exact .inl ⟨S1,H1,by simp[cC,hs],h⟩
  ·rename_i hne
   rcases jx (hp s (by simp)) h with rfl|⟨rfl,p,S1,rfl⟩
   ·exact absurd h (hne _ _)
   ·exact .inr ⟨rfl,p,S1,rfl,by simp[cR,h]⟩
 | s::t::r,hp,S,S',H,H',ex,h=>by
  simp only[am₀,df,exec]at h;split at h
  ·rename_i S1 H1 hs
   rcases kL (l:=t::r) (fun x hx=>hp x (by simp at hx ⊢;exact .inr hx)) (by simpa using h)with ⟨S2,H2,e1,e2⟩|⟨h1,p,S2,h2,h3⟩
   ·exact .inl ⟨S2,H2,by rw[cC,hs];exact e1,e2⟩
   ·exact .inr ⟨h1,p,S2,h2,by rw[cR,hs];exact h3⟩
  ·rename_i hne
   rcases jx (hp s (by simp)) h with rfl|⟨rfl,p,S1,rfl⟩
   ·exact absurd h (hne _ _)
   ·exact .inr ⟨rfl,p,S1,rfl,by simp[cR,h]⟩
theorem xh{callB:dm}{vs:List Value}{r:Value×Heap}(h:hsem callB lo .callC vs H=some r):hsem callB lo (.call false) vs H=some r:=by
 unfold hsem at h;split at h
 all_goals first
  | (rename_i e;cases e;simp only[hsem];exact h)
  | (rename_i e;exact HOp.noConfusion e)
  | (cases h)
theorem pg{s:Stm}(h:dY s=true):dY (jW s)=true:=by
 unfold jW;split<;>first|rfl|exact h
theorem AW{s:Stm}{S':List Value}{H':Heap}(hx:exec callA lo n (jW s) S H=some (.normal,S',H')):exec callA lo n s S H=some (.normal,S',H'):=by
 unfold jW at hx;split at hx
 ·simp only[exec]at hx ⊢
  split at hx
  ·rename_i vs hvs
   split at hx
   ·rename_i hck
    simp only[hck,if_true];split at hx
    ·split at hx
     ·rename_i xs hxs
      split at hx
      ·rename_i v H1 hv
       rw[xh hv];exact hx
      ·simp[cm]at hx
     ·simp at hx
    ·exact hx
    ·simp at hx
   ·simp at hx
  ·simp at hx
 ·simp only[exec]at hx ⊢
  split at hx
  ·rename_i vs hvs
   split at hx
   ·rename_i hck
    simp only[hck,if_true];split at hx
    ·split at hx
     ·simp[hsem,cm]at hx
     ·simp at hx
    ·exact hx
    ·simp at hx
   ·simp at hx
  ·simp at hx
 ·exact hx
theorem CA{s:Stm}(hp:dY s=true){ex:Ex}{S':List Value}{H':Heap}(hx:exec callA lo n (jW s) S H=some (ex,S',H')):ex=.normal:=by
 cases s<;>simp[dY]at hp
 ·simp only[jW,exec]at hx
  repeat' (split at hx)
  all_goals (first|(simp at hx;done)|(simp at hx;exact hx.1.symm))
 ·rename_i l chk pc dst o a
  cases o<;>simp only[jW,exec]at hx
  case call r=>
   cases r<;>simp only[jW,exec]at hx
   all_goals (repeat' (split at hx))
   all_goals (first|(simp at hx;done)|(simp at hx;exact hx.1.symm)|(simp_all [cm];done))
  all_goals (repeat' (split at hx))
  all_goals (first|(simp at hx;done)|(simp at hx;exact hx.1.symm)|(simp_all [cm];done))
 ·simp only[jW,exec]at hx
  repeat' (split at hx)
  all_goals (first|(simp at hx;done)|(simp at hx;exact hx.1.symm))
theorem jj:∀{l:List Stm} {S S':List Value} {H H':Heap},cC callA lo n (l.map jW) S H=some (S',H')->cC callA lo n l S H=some (S',H')
 | [],_,_,_,_,h=>h
 | s::r,S,S',H,H',h=>by
  simp only[ag₀,cC]at h;split at h
  ·rename_i S1 H1 hs
   simp only[cC,AW hs];exact jj h
  ·simp at h
theorem mS:∀{l:List Stm},(∀s ∈ l,dY s=true)->∀{S:List Value} {H:Heap},cR callA lo n (l.map jW) S H=none
 | [],_,_,_=>rfl
 | s::r,hp,S,H=>by
  simp only[ag₀,cR];split
  ·exact mS (fun x hx=>hp x (by simp[hx]))
  ·rename_i j p S1 H1 hs
   have:=CA (hp s (by simp)) hs;cases this
  ·rfl
theorem oZ{ops:List Oper}{draw:Bool}{st:CS}:(cY P ops draw st).env=st.env/\(cY P ops draw st).obl=st.obl:=by
 unfold cY;split<;>exact⟨rfl,rfl⟩
theorem jM{ops:List Oper}{draw:Bool}{st:CS}(h:∀s ∈ st.out,dY s=true):∀s ∈ (cY P ops draw st).out,dY s=true:=by
 intro s hs;unfold cY at hs;split at hs
 ·cases ho:st.out with
  | nil=>rw[ho]at hs;simp at hs
  | cons x r=>
   rw[ho]at hs h;simp only[List.mem_cons,List.mem_map]at hs;rcases hs with rfl|⟨y,hy,rfl⟩
   ·split
    ·exact h x (by simp)
    ·exact pg (h x (by simp))
   ·exact pg (h y (by simp[hy]))
 ·exact h s hs
theorem mJ{l m:List Stm}{S S1 S':List Value}{H H1 H':Heap}:cC callA lo n l S H=some (S1,H1)->cC callA lo n m S1 H1=some (S',H')->cC callA lo n (l++m) S H=some (S',H'):=by
 induction l generalizing S H with
 | nil=>intro h1 h2;simp only[cC,ab₀,ad₀]at h1;obtain⟨rfl,rfl⟩:=h1;exact h2
 | cons s r ih=>
  intro h1 h2;simp only[am₀,cC]at h1 ⊢;split at h1
  ·exact ih h1 h2
  ·simp at h1
theorem iB:∀{l m:List Stm},(∀S H,cR callA lo n m S H=none)->∀{S:List Value} {H:Heap} {r:Value×List Value×Heap},cR callA lo n (l++m) S H=some r->cR callA lo n l S H=some r
 | [],m,hm,S,H,r,h=>by rw[List.nil_append,hm]at h;cases h
 | s::l,m,hm,S,H,r,h=>by
  simp only[am₀,cR]at h ⊢;split at h
  ·rename_i S1 H1 hs
   exact iB hm h
  ·exact h
  ·simp at h
theorem rM{l:List (Nat×E)}{chk:List E}(S:List Value)(H:Heap):cR callA lo n [.sets l chk] S H=none:=by
 simp only[cR,exec];cases evSets S H l with
 | none=>rfl
 | some vs=>cases evChk S H chk<;>rfl
theorem du:∀{l m:List Stm} {S S':List Value} {H H':Heap},cC callA lo n (l++m) S H=some (S',H')->∃S1 H1,cC callA lo n l S H=some (S1,H1)/\cC callA lo n m S1 H1=some (S',H')
 | [],m,S,S',H,H',h=>⟨S,H,rfl,h⟩
 | s::r,m,S,S',H,H',h=>by
  simp only[am₀,cC]at h;split at h
  ·rename_i S1 H1 hs
   obtain⟨S2,H2,e1,e2⟩:=du h;exact⟨S2,H2,by simp only[cC,hs];exact e1,e2⟩
  ·simp at h
theorem jL{ops:List Oper}{draw:Bool}{st:CS}{m:List Stm}{S':List Value}{H':Heap}(h:cC callA lo n ((cY P ops draw st).out.reverse++m) S H=some (S',H')):cC callA lo n (st.out.reverse++m) S H=some (S',H'):=by
 obtain⟨S1,H1,h1,h2⟩:=du h;refine mJ ?_ h2;unfold cY at h1;split at h1
 ·cases ho:st.out with
  | nil=>rw[ho]at h1;exact h1
  | cons x r=>
   rw[ho]at h1;simp only[List.reverse_cons]at h1 ⊢;obtain⟨S2,H2,h3,h4⟩:=du h1;rw[<-List.map_reverse]at h3;refine mJ (jj h3) ?_;split at h4
   ·exact h4
   ·exact jj (l:=[x]) h4
 ·exact h1
theorem qM:∀{l m:List Stm} {S:List Value} {H:Heap} {r:Value×List Value×Heap},cR callA lo n (l++m) S H=some r->(cR callA lo n l S H=some r)\/(∃S1 H1,cC callA lo n l S H=some (S1,H1)/\cR callA lo n m S1 H1=some r)
 | [],m,S,H,r,h=>.inr ⟨S,H,rfl,h⟩
 | s::l,m,S,H,r,h=>by
  simp only[am₀,cR]at h;split at h
  ·rename_i S1 H1 hs
   rcases qM h with h|⟨S2,H2,h1,h2⟩
   ·exact .inl (by simp only[cR,hs];exact h)
   ·exact .inr ⟨S2,H2,by simp only[cC,hs];exact h1,h2⟩
  ·rename_i j p S1 H1 hs
   exact .inl (by simp only[cR,hs];exact h)
  ·simp at h
theorem gM{ops:List Oper}{draw:Bool}{st:CS}{m:List Stm}(hp:∀s ∈ st.out,dY s=true)(hm:∀S H,cR callA lo n m S H=none){p:Value}{S':List Value}{H':Heap}(h:cR callA lo n ((cY P ops draw st).out.reverse++m) S H=some (p,S',H')) :
  (draw=false/\cR callA lo n st.out.reverse S H=some (p,S',H'))\/(draw=true/\oA P ops=true/\∃x r S1 H1,st.out=x::r/\cC callA lo n r.reverse S H=some (S1,H1)/\exec callA lo n x S1 H1=some (.exit cF,p::S',H')):=by
 replace h:=iB hm h;unfold cY at h;split at h
 ·rename_i hd
  subst hd;right;refine⟨rfl,?_⟩;cases ho:st.out with
  | nil=>rw[ho]at h;simp[cR]at h
  | cons x r=>
   rw[ho]at h hp;simp only[List.reverse_cons]at h;rw[<-List.map_reverse]at h;rcases qM h with h|⟨S1,H1,h1,h2⟩
   ·rw[mS (fun s hs=>hp s (by simp at hs;simp[hs]))]at h;simp at h
   ·split at h2
    ·rename_i hl
     refine⟨hl,x,r,S1,H1,rfl,jj h1,?_⟩;simp only[cR]at h2;split at h2
     ·simp at h2
     ·rename_i j q S2 H2 hs
      split at h2
      ·rename_i hj
       simp only[ab₀,ad₀]at h2;obtain⟨rfl,rfl,rfl⟩:=h2;rw[hs,hj]
      ·simp at h2
     ·simp at h2
    ·have:=mS (callA:=callA) (lo:=lo) (n:=n) (l:=[x]) (fun s hs=>hp s (by simp at hs;simp[hs])) (S:=S1) (H:=H1)
     simp only[ag₀,al₀]at this;rw[this]at h2;simp at h2
 ·rename_i hd
  exact .inl ⟨by simpa using hd,h⟩
theorem jo{ops:List Oper}{draw:Bool}{st:CS}:∃m,flush tr st=st.out.reverse++m/\flush tr (cY P ops draw st)=(cY P ops draw st).out.reverse++m/\(m=[]\/∃a b,m=[.sets a b]):=by
 unfold flush;rw[(oZ (P:=P) (ops:=ops) (draw:=draw) (st:=st)).1,(oZ (P:=P) (ops:=ops) (draw:=draw) (st:=st)).2];simp only;split
 ·exact⟨[],by simp,by simp,.inl rfl⟩
 ·exact⟨_,rfl,rfl,.inr ⟨_,_,rfl⟩⟩
theorem og{ops:List Oper}{draw:Bool}{st:CS}{S':List Value}{H':Heap}(h:cC callA lo n (flush tr (cY P ops draw st)) S H=some (S',H')):cC callA lo n (flush tr st) S H=some (S',H'):=by
 obtain⟨m,h1,h2,_⟩:=jo (P:=P) (tr:=tr) (ops:=ops) (draw:=draw) (st:=st);rw[h2]at h;rw[h1];exact jL h
theorem zS{m:List Stm}(h:m=[]\/∃a b,m=[.sets a b])(S:List Value)(H:Heap):cR callA lo n m S H=none:=by
 rcases h with rfl|⟨a,b,rfl⟩
 ·rfl
 ·exact rM S H
def dC(tr:List Nat)(S:List Value)(T:Raw):Prop:=S.length=tr.length/\∀(j t:Nat),tr[j]?=some t->S[j]?=some (T t)
theorem jc{ops:List Oper}(h:dC tr S T):Inv tr ops cH S H T:=
 ⟨⟨by simp[cH],by simp[cH],by simp[cH]⟩,h.1,fun j t ht _=>h.2 j t ht,by simp[cH]⟩
theorem Inv.done{ops:List Oper}{st:CS}(hI:Inv tr ops st S H T)(he:(fZ tr st.env).isEmpty=true)(hnd:Nd tr):dC tr S T:=by
 refine⟨hI.len,fun j t ht=>?_⟩;have hf:fZ tr st.env=[]:=by simpa using he
 have:=jE hnd hI (vs:=[]) (by rw[hf];rfl) ht;simpa[setAll]using this
def mV(P:Program)(ops:List Oper)(draw:Bool)(T:Raw):Prop:=
 ∀q ∈ fR P ops draw,∃x y,cU P ops q.1=some x/\cU P ops q.2=some y/\(ag (az T x)=none\/ag (az T x)≠ag (az T y))
theorem lZ{o:Operand}{x:Ent}(hS:dC tr S T)(h:opE tr [] o=some x):ev1 S H x.e=some (az T o):=
 (oF (ops:=[]) (st:=cH) (jc hS) (by simpa[cH]using h)).1 (by
  have:=me (ops:=[]) (st:=cH) (jc (H:=H) hS).toSInv (by simpa[cH]using h);cases o<;>simp only[opE]at h
  ·simp[ie]at h;obtain⟨j,_,rfl⟩:=h;exact dw
  ·split at h
   ·simp at h;subst h;exact dw
   ·simp at h
  ·simp at h;subst h;exact dw
  ·simp at h;subst h;exact dw)
theorem iL(hS:dC tr S T)(ops:List Oper):∀(ps:List (Nat×Nat)) (acc l:List Stm),ps.foldlM (init:=acc) (fun acc q=>
   match cU P ops q.1,cU P ops q.2 with
   | some x,some y=>match opE tr [] x,opE tr [] y with
    | some a,some c=>some (acc++[Stm.dist a.e c.e])
    | _,_=>none
   | _,_=>none)=some l->∃m,l=acc++m/\(∀s ∈ m,dY s=true)/\∀S' H',cC callA lo n m S H=some (S',H')->S'=S/\H'=H/\∀q ∈ ps,∃x y,cU P ops q.1=some x/\cU P ops q.2=some y/\(ag (az T x)=none\/ag (az T x)≠ag (az T y))
 | [],acc,l,h=>by
  simp at h;subst h;exact⟨[],by simp,by simp,fun S' H' hx=>by simp[cC]at hx;exact⟨hx.1.symm,hx.2.symm,by simp⟩⟩
 | q::ps,acc,l,h=>by
  simp only[List.foldlM_cons,Option.bind_eq_bind,ae₀]at h;obtain⟨acc',h1,h2⟩:=h;split at h1<;>try (simp at h1;done)
  rename_i x y hx hy;split at h1<;>try (simp at h1;done)
  rename_i a c ha hc;simp at h1;subst h1;obtain⟨m,e1,e2,e3⟩:=iL hS ops ps _ l h2;refine⟨.dist a.e c.e::m,by rw[e1];simp,?_,fun S' H' hexec=>?_⟩
  ·intro s hs
   cases hs with
   | head=>rfl
   | tail _ hs=>exact e2 s hs
  ·simp only[cC,exec,lZ (H:=H) hS ha,lZ (H:=H) hS hc]at hexec
   split at hexec
   ·rename_i S1 H1 hs
    split at hs
    ·rename_i hcond
     simp at hs;obtain⟨rfl,rfl⟩:=hs;obtain⟨f1,f2,f3⟩:=e3 S' H' hexec;refine⟨f1,f2,fun q' hq=>?_⟩;cases hq with
     | head=>exact⟨x,y,hx,hy,hcond⟩
     | tail _ hq=>exact f3 q' hq
    ·simp at hs
   ·simp at hexec
theorem mW:∀(ps:List Stm),(∀s ∈ ps,∃a b,s=.dist a b)->∀(S:List Value) (H:Heap),cR callA lo n ps S H=none
 | [],_,_,_=>rfl
 | s::r,h,S,H=>by
  obtain⟨a,b,rfl⟩:=h s (by simp);simp only[cR];split
  ·exact mW r (fun x hx=>h x (by simp[hx])) _ _
  ·rename_i j p S1 H1 hs
   simp only[exec]at hs;repeat' (split at hs)
   all_goals simp at hs
  ·rfl
theorem qC(ops:List Oper):∀(ps:List (Nat×Nat)) (acc l:List Stm),ps.foldlM (init:=acc) (fun acc q=>
   match cU P ops q.1,cU P ops q.2 with
   | some x,some y=>match opE tr [] x,opE tr [] y with
    | some a,some c=>some (acc++[Stm.dist a.e c.e])
    | _,_=>none
   | _,_=>none)=some l->(∀s ∈ acc,∃a b,s=Stm.dist a b)->∀s ∈ l,∃a b,s=Stm.dist a b
 | [],acc,l,h,ha=>by simp at h;subst h;exact ha
 | q::ps,acc,l,h,ha=>by
  simp only[List.foldlM_cons,Option.bind_eq_bind,ae₀]at h;obtain⟨acc',h1,h2⟩:=h;split at h1<;>try (simp at h1;done)
  rename_i x y hx hy;split at h1<;>try (simp at h1;done)
  rename_i a c hac hc;simp at h1;subst h1;refine qC ops ps _ l h2 fun s hs=>?_;rcases List.mem_append.1 hs with hs|hs
  ·exact ha s hs
  ·simp at hs;exact⟨_,_,hs⟩
theorem v7(hnd:Nd tr){ops:List Oper}{st:CS}{raised:Nat->Bool}{l:List Nat}(h:dd P tr ops raised l cH=some st)(hS:dC tr S T){S':List Value}{H':Heap}
  (hx:cC callA lo n (flush tr st) S H=some (S',H')):∃T',bT P callA.ret lo ops raised l T H=some (T',H')/\dC tr S' T':=by
 obtain⟨R,e1,e2,e3,e4,e5⟩:=fw (callA:=callA) (lo:=lo) (n:=n) hnd l cH st h;have hout:st.out=R:=by rw[e1];simp[cH]
 have hI0:=jc (ops:=ops) (H:=H) hS;unfold flush at hx;simp only[hout]at hx;split at hx
 ·rename_i hemp
  simp only[ac₀]at hemp;have hobl:dr S' H' st.obl:=by
   intro x hxo hh;have hsi:=e3 hI0.toSInv;obtain⟨y,hy,y1,y2,y3,y4⟩:=hsi.obls x hxo;by_cases hi:(idxOf tr x.t).isSome=true
   ·obtain⟨j,hj⟩:=Option.isSome_iff_exists.1 hi
    have:=jr (tr:=tr) hy (by rw[y1];exact hj);have hf:fZ tr st.env=[]:=by simpa using hemp.1
    rw[hf]at this;simp at this
   ·have hm:x ∈ st.obl.filter fun x=>!(idxOf tr x.t).isSome:=List.mem_filter.2 ⟨hxo,by simpa using hi⟩
    have hc:(st.obl.filter fun x=>!(idxOf tr x.t).isSome)=[]:=by simpa[AY]using hemp.2
    rw[hc]at hm;simp at hm
  obtain⟨T',f1,f2⟩:=e5 S H T S' H' hI0 hx hobl;exact⟨T',f1,f2.done hemp.1 hnd⟩
 ·obtain⟨S1,H1,g1,g2⟩:=du hx
  simp only[cC,exec]at g2;split at g2
  ·rename_i S2 H2 hs
   split at hs
   ·rename_i vs hvs
    split at hs
    ·rename_i hchk
     simp at hs g2;obtain⟨rfl,rfl⟩:=hs;obtain⟨rfl,rfl⟩:=g2;have hsi:=e3 hI0.toSInv;have hobl:dr S1 H1 st.obl:=by
      intro x hxo hh;by_cases hi:(idxOf tr x.t).isSome=true
      ·exact sQ hsi hvs hxo hi hh
      ·exact tZ hchk (List.mem_filter.2 ⟨hxo,by simpa using hi⟩) hh
     obtain⟨T',f1,f2⟩:=e5 S H T S1 H1 hI0 g1 hobl;exact⟨T',f1,by rw[iu];exact f2.len,fun j t ht=>jE hnd f2 hvs ht⟩
    ·simp at hs
   ·simp at hs
  ·simp at g2
theorem nC{ops:List Oper}{raised:Nat->Bool}{i:Nat}:∀{l:List Nat} {st st':CS},dd P tr ops raised (l++[i]) st=some st'->∃st1 o,dd P tr ops raised l st=some st1/\ops[i]?=some o/\nq P tr ops (raised i) st1 o=some st'
 | [],st,st',h=>by
  simp only[List.nil_append,dd]at h;split at h
  ·rename_i o ho
   split at h
   ·rename_i st1 h1;simp at h;subst h;exact⟨st,o,rfl,ho,h1⟩
   ·simp at h
  ·simp at h
 | j::l,st,st',h=>by
  simp only[am₀,dd]at h;split at h
  ·rename_i o ho
   split at h
   ·rename_i st1 h1
    obtain⟨st2,o2,g1,g2,g3⟩:=nC h;exact⟨st2,o2,by simp only[dd,ho,h1];exact g1,g2,g3⟩
   ·simp at h
  ·simp at h
def AL(P:Program)(callA:CallR)(lo:Nat)(ops:List Oper)(draw:Bool)(T:Raw)(H:Heap)(p:Value)(T1:Raw)(H':Heap):Prop:=
 (draw=false/\KC P callA lo ops (bS P ops draw) (cz P ops draw) T H p T1 H') \/
 (draw=true/\oA P ops=true/\∃H1 o h xs,ops[ops.dropLast.length]?=some o/\bT P callA.ret lo ops (bS P ops true) (cz P ops.dropLast true) T H=some (T1,H1)/\bR ops T1 o=true/\resolve P o.op=(.h h,xs) /\
  cm callA lo (cD (bS P ops true ops.dropLast.length) h) (xs.map (az T1)) H1=some (p,H'))
theorem pQ(hnd:Nd tr){ops:List Oper}{draw:Bool}{st:CS}(h:dd P tr ops (bS P ops draw) (cz P ops draw) cH=some st)(hS:dC tr S T){p:Value}{S':List Value}{H':Heap}
  (hx:(draw=false/\cR callA lo n st.out.reverse S H=some (p,S',H'))\/(draw=true/\oA P ops=true/\∃x r S1 H1,st.out=x::r/\cC callA lo n r.reverse S H=some (S1,H1)/\exec callA lo n x S1 H1=some (.exit cF,p::S',H'))) :
  ∃T',dC tr S' T'/\AL P callA lo ops draw T H p T' H':=by
 have hI0:=jc (ops:=ops) (H:=H) hS;rcases hx with ⟨rfl,hx⟩|⟨rfl,hl,x,r,S1,H1,ho,hL,hX⟩
 ·obtain⟨R,e1,e4,e5⟩:=o5 (callA:=callA) (lo:=lo) (n:=n) hnd _ cH st h
  have hout:st.out=R:=by rw[e1];simp[cH]
  rw[hout]at hx;obtain⟨T1,g1,g2,g3⟩:=e5 S H T p S' H' hI0 hx;exact⟨T1,⟨g1,g2⟩,.inl ⟨rfl,g3⟩⟩
 ·have hl':=hl
  unfold oA at hl';simp only[ac₀,beq_iff_eq]at hl';obtain⟨hcall,hord,_⟩:=hl';rw[hord]at h;obtain⟨st1,o,g1,g2,g3⟩:=nC h;have hres:∃hh xs,resolve P o.op=(.h hh,xs):=by
   rw[g2]at hcall;simp only[Option.any_some,gU]at hcall;cases hr:resolve P o.op with
   | mk rop xs=>
    rw[hr]at hcall;cases rop with
    | l l=>simp at hcall
    | h hh=>exact⟨hh,xs,rfl⟩
  obtain⟨hh,xs,hres⟩:=hres;obtain⟨y,f1,f2,f3,f4,f5,f6,f7⟩:=jk (callA:=callA) (lo:=lo) (n:=n) hnd g3 hres;rw[ho]at f1;simp only[List.cons.injEq]at f1;obtain⟨rfl,rfl⟩:=f1;obtain⟨R,e1,e2,e3,e4,e5⟩:=fw (callA:=callA) (lo:=lo) (n:=n) hnd _ cH st1 g1;have hout:st1.out=R:=by rw[e1];simp[cH]
  rw[hout]at hL;have hob:dr S1 H1 st1.obl:=f5 (e3 hI0.toSInv) S1 H1 _ hX;obtain⟨T1,k1,k2⟩:=e5 S H T S1 H1 hI0 hL hob;obtain⟨p2,S3,e,hj,q1,q2,q3,q4⟩:=f7 S1 H1 T1 _ _ H' k2 hX;simp only[List.cons.injEq]at e;obtain⟨rfl,rfl⟩:=e;exact⟨T1,⟨q1,q2⟩,.inr ⟨rfl,hl,H1,o,hh,xs,g2,k1,q3,hres,q4⟩⟩
theorem jD(hnd:Nd tr){ops:List Oper}{draw:Bool}{st:CS}{raised:Nat->Bool}{l:List Nat}(h:dd P tr ops raised l cH=some st):(∀s ∈ flush tr (cY P ops draw st),dY s=true)/\∀s ∈ st.out,dY s=true:=by
 obtain⟨R,e1,e2,_⟩:=fw (callA:=(fun _ _ _ _=>none:CallR)) (lo:=0) (n:=0) hnd l cH st h;have hout:st.out=R:=by rw[e1];simp[cH]
 have hp:∀s ∈ st.out,dY s=true:=by rw[hout];exact e2
 refine⟨fun s hs=>?_,hp⟩;obtain⟨m,_,h2,h3⟩:=jo (P:=P) (tr:=tr) (ops:=ops) (draw:=draw) (st:=st);rw[h2]at hs;rcases List.mem_append.1 hs with hs|hs
 ·exact jM hp s (by simpa using hs)
 ·rcases h3 with rfl|⟨a,b,rfl⟩
  ·simp at hs
  ·simp at hs;rw[hs];rfl
theorem jy(hnd:Nd tr){ops:List Oper}{draw:Bool}{l:List Stm}(h:fP P tr ops draw=some l)(hS:dC tr S T){ex:Ex}{S':List Value}{H':Heap}
  (hx:exec callA lo n (df l) S H=some (ex,S',H')):(ex=.normal/\(draw=true->fJ P ops=true) /\
   ∃T',bT P callA.ret lo ops (bS P ops draw) (cz P ops draw) T H=some (T',H')/\dC tr S' T'/\mV P ops draw T') \/
   (ex=.exit cF/\(draw=true->fJ P ops=true)/\∃p S1 T',S'=p::S1/\dC tr S1 T'/\AL P callA lo ops draw T H p T' H'):=by
 unfold fP at h;split at h
 ·rename_i st ds hst hds
  simp at h;subst h;unfold dA at hst;split at hst
  ·simp at hst
  ·rename_i hdraw
   have hp1:=jD hnd hst (draw:=draw);obtain⟨m,hm1,hm2,_⟩:=iL (callA:=callA) (lo:=lo) (n:=n) (H:=H) hS ops _ [] ds hds;simp at hm1;subst hm1;rcases oe (l:=flush tr (cY P ops draw st)++ds) (fun s hs=>by
    rcases List.mem_append.1 hs with hs|hs
    ·exact hp1.1 s hs
    ·exact hm2 s hs) hx with ⟨rfl,hL⟩|⟨rfl,p,S1,rfl,hP⟩
   ·obtain⟨S1,H1,g1,g2⟩:=du hL
    obtain⟨T',f1,f2⟩:=v7 hnd hst hS (og g1);obtain⟨m',hm1',_,hm3⟩:=iL (callA:=callA) (lo:=lo) (n:=n) (H:=H1) f2 ops _ [] ds hds;simp at hm1';subst hm1';obtain⟨rfl,rfl,hd⟩:=hm3 _ _ g2;refine .inl ⟨rfl,fun e=>?_,T',f1,f2,hd⟩;subst e;simpa using hdraw
   ·have hP1:=iB (mW ds (qC ops _ [] ds hds (by simp))) hP
    obtain⟨m,_,h2,h3⟩:=jo (P:=P) (tr:=tr) (ops:=ops) (draw:=draw) (st:=st);rw[h2]at hP1;obtain⟨T',f1,f2⟩:=pQ hnd hst hS (gM hp1.2 (zS h3) hP1);exact .inr ⟨rfl,fun e=>by subst e;simpa using hdraw,p,S1,T',rfl,f1,f2⟩
 ·simp at h
theorem CQ(hnd:Nd tr){ops:List Oper}{draw:Bool}{c:Operand}{l:List Stm}{e:E}(h:fY P tr ops draw c=some (l,e))(hS:dC tr S T){S':List Value}{H':Heap}
  (hx:cC callA lo n l S H=some (S',H')) {v:Value} (hv:ev1 S' H' e=some v):(draw=true->fJ P ops=true) /\
   ∃T',bT P callA.ret lo ops (bS P ops draw) (cz P ops draw) T H=some (T',H')/\dC tr S' T'/\mV P ops draw T'/\az T' c=v:=by
 unfold fY at h;have tail:∀(st:CS) (ds:List Stm) (x:Ent),dA P tr ops draw=some st->k5 P tr ops draw=some ds->opE tr [] c=some x->l=flush tr (cY P ops draw st)++ds->e=x.e ->
   (draw=true->fJ P ops=true)/\∃T',bT P callA.ret lo ops (bS P ops draw) (cz P ops draw) T H=some (T',H')/\dC tr S' T'/\mV P ops draw T'/\az T' c=v:=by
  intro st ds x hst hds hc hl he;unfold dA at hst;split at hst
  ·simp at hst
  ·rename_i hdraw
   rw[hl]at hx;obtain⟨S1,H1,g1,g2⟩:=du hx;obtain⟨T',f1,f2⟩:=v7 hnd hst hS (og g1);obtain⟨m',hm1',_,hm3⟩:=iL (callA:=callA) (lo:=lo) (n:=n) (H:=H1) f2 ops _ [] ds hds;simp at hm1';subst hm1';obtain⟨rfl,rfl,hd⟩:=hm3 _ _ g2;refine⟨fun e=>by subst e;simpa using hdraw,T',f1,f2,hd,?_⟩;have:=lZ (H:=H') f2 hc;rw[he,this]at hv;simpa using hv
 split at h
 ·rename_i st hst hds
  split at h
  ·rename_i hemp
   split at h
   ·rename_i x hcx
    split at h
    ·rename_i hg
     simp only[ab₀,ad₀]at h;obtain⟨hl,rfl⟩:=h;unfold dA at hst;split at hst
     ·simp at hst
     ·rename_i hdraw
      obtain⟨R,e1,e2,e3,e4,e5⟩:=fw (callA:=callA) (lo:=lo) (n:=n) hnd _ cH st hst;have hout:st.out=R:=by rw[e1];simp[cH]
      have hI0:=jc (ops:=ops) (H:=H) hS;have hsi:=e3 hI0.toSInv;have hxpc:=me hsi hcx;have hxg:x.g=none:=by simpa using hg
      rw[hxg]at hxpc;simp[cE]at hxpc;have key:cC callA lo n R.reverse S H=some (S',H')/\dr S' H' st.obl:=by
       have cov:∀(S1:List Value) (H1:Heap),ev1 S1 H1 x.e=some v->(∀y ∈ rest (st.obl.filter fun x=>!(idxOf tr x.t).isSome) none ((bg c).toList),au S1 H1 y.pc->(ev S1 H1 y.e).isSome=true)->dr S1 H1 st.obl:=by
        intro S1 H1 hev hrest y hy hh;by_cases hi:(idxOf tr y.t).isSome=true
        ·obtain⟨z,hz,z1,z2,z3,z4⟩:=hsi.obls y hy
         obtain⟨j,hj⟩:=Option.isSome_iff_exists.1 hi;have:=jr (tr:=tr) hz (by rw[z1];exact hj);have hf:fZ tr st.env=[]:=by simpa using hemp
         rw[hf]at this;simp at this
        ·have hm:y ∈ st.obl.filter fun x=>!(idxOf tr x.t).isSome:=List.mem_filter.2 ⟨hy,by simpa using hi⟩
         rcases jz none ((bg c).toList) hm with h1|⟨h1,h2⟩
         ·exact hrest y h1 hh
         ·obtain⟨z,hz,z1,z2,z3,z4⟩:=hsi.obls y hy
          have ht:bg c=some y.t:=by
           cases hto:bg c with
           | none=>rw[hto]at h2;simp at h2
           | some t=>rw[hto]at h2;simp at h2;rw[h2]
          have hlk:=l3 hcx ht;rw[<-z1,lV hsi hz]at hlk;cases hlk;rw[<-z3,eY hev];rfl
       rw[<-hl]at hx;split at hx
       ·rename_i hob
        replace hx:=jL (m:=[]) (by rw[List.append_nil];exact hx);rw[List.append_nil,hout]at hx;refine⟨hx,cov S' H' hv (fun y hy=>?_)⟩;have:rest (st.obl.filter fun x=>!(idxOf tr x.t).isSome) none ((bg c).toList)=[]:=by simpa using hob
        rw[this]at hy;simp at hy
       ·replace hx:=jL hx
        rw[hout]at hx;obtain⟨S1,H1,g1,g2⟩:=du hx;simp only[cC,exec,evSets,setAll]at g2;split at g2
        ·rename_i S2 H2 hs
         split at hs
         ·rename_i hchk
          simp at hs g2;obtain⟨rfl,rfl⟩:=hs;obtain⟨rfl,rfl⟩:=g2;exact⟨g1,cov _ _ hv (fun y hy=>tZ hchk hy)⟩
         ·simp at hs
        ·simp at g2
      obtain⟨T',f1,f2⟩:=e5 S H T S' H' hI0 key.1 key.2;refine⟨fun e=>by subst e;simpa using hdraw,T',f1,f2.done hemp hnd,?_,?_⟩
      ·obtain⟨m,hm1,_,hm3⟩:=iL (callA:=callA) (lo:=lo) (n:=n) (H:=H') (f2.done hemp hnd) ops _ [] [] hds
       simp at hm1;subst hm1;exact(hm3 S' H' rfl).2.2
      ·have:=(oF f2 hcx).1 (by rw[hxpc];exact dw)
       rw[hv]at this;simpa using this.symm
    ·simp at h
   ·simp at h
  ·split at h
   ·rename_i x hcx
    simp at h;obtain⟨rfl,rfl⟩:=h;exact tail st [] x hst hds hcx (by simp) rfl
   ·simp at h
 ·rename_i st ds hds hst hne
  split at h
  ·rename_i x hcx
   simp at h;obtain⟨rfl,rfl⟩:=h;exact tail st ds x (by assumption) (by assumption) hcx rfl rfl
  ·simp at h
 ·simp at h
theorem xP(hnd:Nd tr){ops:List Oper}{draw:Bool}{c:Operand}{l:List Stm}{e:E}(h:fY P tr ops draw c=some (l,e))(hS:dC tr S T):∀s ∈ l,dY s=true:=by
 unfold fY at h;have tail:∀(st:CS) (ds:List Stm),dA P tr ops draw=some st->k5 P tr ops draw=some ds->l=flush tr (cY P ops draw st)++ds->∀s ∈ l,dY s=true:=by
  intro st ds hst hds hl s hs;unfold dA at hst;split at hst
  ·simp at hst
  ·obtain⟨m,hm1,hm2,_⟩:=iL (callA:=(fun _ _ _ _=>none:CallR)) (lo:=0) (n:=0) (H:=[]) hS ops _ [] ds hds
   simp at hm1;subst hm1;rw[hl]at hs;rcases List.mem_append.1 hs with hs|hs
   ·exact(jD hnd hst).1 s hs
   ·exact hm2 s hs
 split at h
 ·rename_i st hst hds
  split at h
  ·split at h
   ·split at h
    ·simp only[ab₀,ad₀]at h
     obtain⟨hl,rfl⟩:=h;unfold dA at hst;split at hst
     ·simp at hst
     ·obtain⟨R,e1,e2,_⟩:=fw (callA:=(fun _ _ _ _=>none:CallR)) (lo:=0) (n:=0) hnd _ cH st hst
      have hout:st.out=R:=by rw[e1];simp[cH]
      intro s hs;rw[<-hl]at hs;have hp:∀s ∈ st.out,dY s=true:=by rw[hout];exact e2
      split at hs
      ·exact jM hp s (by simpa using hs)
      ·rcases List.mem_append.1 hs with hs|hs
       ·exact jM hp s (by simpa using hs)
       ·simp at hs;rw[hs];rfl
    ·simp at h
   ·simp at h
  ·split at h
   ·simp at h;obtain⟨rfl,rfl⟩:=h;exact tail st [] hst hds (by simp)
   ·simp at h
 ·split at h
  ·simp at h;obtain⟨rfl,rfl⟩:=h;exact tail _ _ (by assumption) (by assumption) rfl
  ·simp at h
 ·simp at h
theorem CP(hnd:Nd tr){ops:List Oper}{draw:Bool}{c:Operand}{l:List Stm}{e:E}(h:fY P tr ops draw c=some (l,e))(hS:dC tr S T){p:Value}{S':List Value}{H':Heap}
  (hx:cR callA lo n l S H=some (p,S',H')):(draw=true->fJ P ops=true)/\∃T',dC tr S' T'/\AL P callA lo ops draw T H p T' H':=by
 unfold fY at h;have tail:∀(st:CS) (ds:List Stm),dA P tr ops draw=some st->k5 P tr ops draw=some ds->l=flush tr (cY P ops draw st)++ds->(draw=true->fJ P ops=true)/\∃T',dC tr S' T'/\AL P callA lo ops draw T H p T' H':=by
  intro st ds hst hds hl;unfold dA at hst;split at hst
  ·simp at hst
  ·rename_i hdraw
   rw[hl]at hx;have hP1:=iB (mW ds (qC ops _ [] ds hds (by simp))) hx;obtain⟨m,_,h2,h3⟩:=jo (P:=P) (tr:=tr) (ops:=ops) (draw:=draw) (st:=st);rw[h2]at hP1;exact⟨fun e=>by subst e;simpa using hdraw,pQ hnd hst hS (gM (jD hnd hst (draw:=draw)).2 (zS h3) hP1)⟩
 split at h
 ·rename_i st hst hds
  split at h
  ·split at h
   ·split at h
    ·simp only[ab₀,ad₀]at h
     obtain⟨hl,rfl⟩:=h;unfold dA at hst;split at hst
     ·simp at hst
     ·rename_i hdraw
      refine⟨fun e=>by subst e;simpa using hdraw,?_⟩;have hp:=(jD hnd hst (draw:=draw)).2;rw[<-hl]at hx;split at hx
      ·exact pQ hnd hst hS (gM (m:=[]) hp (fun _ _=>rfl) (by rw[List.append_nil];exact hx))
      ·exact pQ hnd hst hS (gM hp (fun S H=>rM S H) hx)
    ·simp at h
   ·simp at h
  ·split at h
   ·simp at h;obtain⟨rfl,rfl⟩:=h;exact tail st [] hst hds (by simp)
   ·simp at h
 ·split at h
  ·simp at h;obtain⟨rfl,rfl⟩:=h;exact tail _ _ (by assumption) (by assumption) rfl
  ·simp at h
 ·simp at h
end
end Go.Abs
