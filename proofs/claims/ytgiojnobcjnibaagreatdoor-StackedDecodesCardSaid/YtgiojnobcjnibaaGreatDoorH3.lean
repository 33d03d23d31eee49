/- Lemmas. -/
import Derived.Test.YtgiojnobcjnibaaGreatDoorH2
set_option linter.all false
def Xf{P:Prop}(h:P:=by assumption):P:=h
theorem Yj{P:Prop}(h:P:=by simpa using o):P:=h
namespace Go.Abs
abbrev Raw:=Nat->Value
def ah(T:Raw):Operand->Value
 | .tmp t=>T t
 | .const v=>v
 | .global g=>.pointer<|some ⟨g,0,none⟩
 | .func f=>.func (.func f) #[] #[]
def fZ(T:Raw)(dst:Option Nat)(v:Value):Raw:=
 match dst with
 | some d=>λt=>if t=d then v else T t
 | none=>T
def xI(T:Raw)(t:Nat)(want:Bool):Bool:=
 match T t with
 | .bool b=>b==want
 | _=>false
def bY(ops:List Oper)(T:Raw)(o:Oper):Bool:=
 match o.guard with
 | none=>true
 | some (j,want)=>match ops[j]? with
  | some oj=>match oj.dst with
   | some t=>xI T t want
   | none=>false
  | none=>false
noncomputable def bZ(P:Program)(callA:dd)(lo:Nat)(ops:List Oper)(raised:dG)(o:Oper)(T:Raw)(H:Heap):Option<|Raw×Heap:=
 if bY ops T o then
  match rsv P raised o with
  | (.l l,xs)=>match aG l (xs.map<|ah T) H with
   | some v=>some (fZ T o.dst v,H)
   | none=>none
  | (.h h,xs)=>match hsem callA lo h (xs.map<|ah T) H with
   | some (v,H')=>some (fZ T o.dst v,H')
   | none=>none
 else some (fZ T o.dst undef,H)
noncomputable def bg(P:Program)(callA:dd)(lo:Nat)(ops:List Oper)(raised:Nat->dG):XN->Raw->Heap->Option (Raw×Heap)
 | [],T,H=>some (T,H)
 | i::r,T,H=>match ops[i]? with
  | some o=>match bZ P callA lo ops (raised i) o T H with
   | some (T',H')=>bg P callA lo ops raised r T' H'
   | none=>none
  | none=>none
section
variable {P:Program}{callA:dd}{lo:Nat}{tr:XN}{ops:List Oper}{S:XV}{H:Heap}{T:Raw}
def bC(S:XV)(H:Heap)(pc:PC):Prop:=holds S H pc=some true
theorem gP:bC S H []:=rfl
theorem fm:∀(p q:PC),bC S H (p++q)↔bC S H p/\bC S H q
 | [],q=>by simp[bC,holds]
 | (c,a)::p,q=>by
  have b:=fm p q
  grind[bC,holds]
theorem kj(c:E)(a:Bool):bC S H [(c,a)]↔ev1 S H c=some (.bool a):=by grind[bC,holds]
def Fg(S:XV)(H:Heap)(T:Raw)(x:Ent):Prop:=
 (bC S H x.pc->ev1 S H x.e=some (T x.t))/\(¬ bC S H x.pc->T x.t=undef)
structure SInv (tr:XN)(ops:List Oper)(st:CS):Prop where
 pcs:∀x ∈ st.env,cJ ops tr st.env x.g=some x.pc
 uniq:∀x ∈ st.env,st.env.find? (λy=>y.t==x.t)=some x
 obls:∀x ∈ st.obl,∃y ∈ st.env,y.t=x.t/\y.pc=x.pc/\y.e=x.e/\y.g=x.g
structure Inv (tr:XN)(ops:List Oper)(st:CS)(S:XV)(H:Heap)(T:Raw):Prop extends SInv tr ops st where
 len:S.length=tr.length
 slots:∀(j t:Nat),tr[j]?=some t->zT st.env t=false->S[j]?=some (T t)
 ents:∀x ∈ st.env,Fg S H T x
def dS:∀{tr:XN} {t j:Nat},idxOf tr t=some j->tr[j]?=some t
 | [],t,j,h=>by grind[idxOf]
 | x::r,t,j,h=>by
  unfold idxOf at h;split at h
  .grind
  .simp at h
   obtain⟨k,a,rfl⟩:=h;simpa using dS a
def o5:∀{tr:XN} {t j:Nat},idxOf tr t=none->tr[j]?≠some t
 | [],t,j,_=>by simp
 | x::r,t,j,h=>by
  unfold idxOf at h;split at h
  .grind
  next e=>
   cases j with
   | zero=>simpa using e
   | succ j=>simp at h;simpa using o5 h
theorem m6{a:List Ent}{t:Nat}:zT a t=true↔∃x ∈ a,x.t=t:=by simp[zT]
def zj{st:CS}(a:Inv tr ops st S H T){t:Nat}{x:Ent}(h:jn tr st.env t=some x):x.t=t/\Fg S H T x/\cJ ops tr st.env x.g=some x.pc:=by
 unfold jn at h;split at h
 next y d=>
  simp at h;subst h;have b:=List.mem_of_find?_eq_some d;have c:=List.find?_some d;simp at c;exact⟨c,a.ents _ b,a.pcs _ b⟩
 .simp at h
  obtain⟨j,f,rfl⟩:=h;have e:zT st.env t=false:=by
   grind[m6]
  have:=a.slots j t (dS f) e;refine⟨rfl,⟨λ_=>?_,λh=>absurd gP h⟩,rfl⟩
  grind[ev1,ev]
def qV{st:CS}(e:Inv tr ops st S H T){o:Operand}{x:Ent}(h:opE tr st.env o=some x) :
  (bC S H x.pc->ev1 S H x.e=some (ah T o))/\cJ ops tr st.env x.g=some x.pc/\(∀t,cH o=some t->x.t=t/\jn tr st.env t=some x):=by
 cases o<;>simp only[opE]at h
 .have⟨b,c,d⟩:=zj e h
  refine⟨λf=>by rw[c.1 f,b];rfl,d,λg a=>?_⟩
  grind[cH]
 .split at h
  .simp at h;subst h;exact⟨λ_=>by rfl,rfl,λt a=>by grind[cH]⟩
  .grind
 all_goals simp at h;subst h;exact⟨fun _=>by rfl,rfl,fun t ht=>by grind[cH]⟩
theorem sG{st:CS}(c:Inv tr ops st S H T):∀{xs:List Operand} {b:List Ent},mo tr st.env xs=some b->(∀x ∈ b,bC S H x.pc)->ev S H (kC b)=some (xs.map<|ah T)
 | [],b,h,_=>by grind[mo,kC,ev]
 | o::xs,b,h,d=>by
  simp[mo]at h;split at h
  next a e=>
   split at h
   next l f=>
    simp at h;subst h;have i:=(qV c e).1<|d a Wc;have j:=sG c f (λx g=>d x (by simp[g]))
    grind[ev,ev1,kC]
   .grind
  .grind
theorem IW{st:CS}(a:SInv tr ops st){t:Nat}{x:Ent}(h:jn tr st.env t=some x):cJ ops tr st.env x.g=some x.pc:=by
 unfold jn at h;split at h
 .grind[SInv.pcs]
 .simp at h
  obtain⟨j,b,rfl⟩:=h;rfl
theorem nW{st:CS}(a:SInv tr ops st){y:Ent}(b:y ∈ st.env):jn tr st.env y.t=some y:=by grind[jn,SInv.uniq]
theorem qW{st:CS}(a:SInv tr ops st){o:Operand}{x:Ent}(h:opE tr st.env o=some x):cJ ops tr st.env x.g=some x.pc:=by
 cases o<;>simp only[opE]at h
 .grind[IW]
 .split at h
  .simp at h;subst h;rfl
  .grind
 all_goals simp at h;subst h;rfl
theorem n0{a:List Ent}{o:Operand}{x:Ent}(h:opE tr a o=some x){t:Nat}(b:cH o=some t):jn tr a t=some x:=by cases o<;>simp[cH]at b;subst b;exact h
def pQ{st:CS}(c:SInv tr ops st):∀{xs:List Operand} {a:List Ent},mo tr st.env xs=some a->∀x ∈ a,cJ ops tr st.env x.g=some x.pc
 | [],a,h,x,b=>by grind[mo]
 | o::xs,a,h,x,b=>by
  simp[mo]at h;split at h
  .split at h
   next l d=>
    simp at h;subst h;cases b with
    | head=>grind[qW]
    | tail _ b=>exact pQ c d x b
   .grind
  .grind
theorem uL{b:List Ent}:∀{xs:List Operand} {c:List Ent},mo tr b xs=some c->∀t,t ∈ xs.filterMap cH->∃x ∈ c,jn tr b t=some x
 | [],c,h,t,a=>by simp at a
 | o::xs,c,h,t,a=>by
  simp[mo]at h;split at h
  .split at h
   next l d=>
    simp at h;subst h;simp[List.filterMap_cons]at a;split at a
    .have⟨x,f,e⟩:=uL d t a;simp_all
    .cases a with
     | head=>grind[n0]
     | tail _ a=>have⟨x,f,e⟩:=uL d t a;simp_all
   .grind
  .grind
theorem tE:∀{c:List Ent} {x:Ent},x ∈ c->(ev S H<|kC c).isSome=true->(ev S H x.e).isSome=true
 | a::r,x,b,h=>by
  simp[kC,ev]at h;split at h
  next y d=>
   split at h
   next z e=>
    cases b with
    | head=>simp[d]
    | tail _ b=>exact tE b Yf
   .grind
  .grind
def jk{st:CS}(i:Inv tr ops st S H T){o:Oper}{d:PC}(h:cJ ops tr st.env o.guard=some d):bY ops T o=true↔bC S H d:=by
 unfold cJ at h;unfold bY;split at h
 .grind[gP]
 next j f e=>
  split at h
  next m a=>
   split at h
   next t k=>
    simp at h;obtain⟨x,l,rfl⟩:=h;have⟨g,b,_⟩:=zj i l;simp[e,a,k];rw[fm,kj,xI,<-g];by_cases c:bC S H x.pc
    .have:=b.1 c
     grind
    .have:=b.2 c
     grind[undef]
   .grind
  .grind
theorem uJ{st:CS}{g a:Option<|Nat×Bool}{b c:PC}(h:okG g a=true)(e:cJ ops tr st.env g=some b)(d:cJ ops tr st.env a=some c)(f:bC S H b):bC S H c:=by grind[okG,cJ,gP]
def eZ(S:XV)(H:Heap)(obl:List Obl):Prop:=∀x ∈ obl,bC S H x.pc->(ev S H x.e).isSome=true
theorem xz{a:List Ent}{d:Nat}{new:Ent}(b:new.t=d){t:Nat}(c:t≠d):jn tr (new::a) t=jn tr a t:=by grind[jn]
theorem uD{a:List Ent}{d:Nat}{new:Ent}(f:new.t=d){g:Option<|Nat×Bool}(c:(match g with|some (j,_)=>(match ops[j]? with|some o=>!(o.dst==some d)|none=>true)|none=>true)=true) :
  cJ ops tr (new::a) g=cJ ops tr a g:=by
 unfold cJ;cases g with
 | none=>rfl
 | some q=>
  have⟨j,e⟩:=q;simp only at c ⊢;cases h:ops[j]? with
  | none=>rfl
  | some o=>
   simp only at c ⊢;cases b:o.dst with
   | none=>rfl
   | some t=>
    simp_all[xz]
theorem SInv.push{st:CS}(k:SInv tr ops st){d:Nat}{e:E}{i:PC}{g:Option<|Nat×Bool}{obl:List Obl}(m:zT st.env d=false)(a:nX ops (⟨d,.nil,[],g⟩::st.env) d=true)
  (h:cJ ops tr st.env g=some i) (j:∀x ∈ obl,x ∈ st.obl):SInv tr ops { st with env:=⟨d,e,i,g⟩::st.env,obl:=⟨d,i,e,g⟩::obl }:=by
 simp only[nX,List.all_cons,ac₀]at a;have⟨c,f⟩:=a;have l:∀y ∈ st.env,y.t≠d:=by
  grind[m6]
 refine⟨?_,?_,?_⟩
 .intro x b
  cases b with
  | head=>rw[uD rfl c];exact h
  | tail _ b=>
   rw[uD rfl<|List.all_eq_true.1 f x b];exact k.pcs x b
 all_goals grind[List.mem_cons_self,uniq,obls]
def iw{a:List Obl}{g:Option<|Nat×Bool}{c:XN}:∀x ∈ rest a g c,x ∈ a:=λ_ b=>(List.mem_filter.1 b).1
def l8{a:List Obl}(g:Option<|Nat×Bool)(b:XN){x:Obl}(c:x ∈ a):x ∈ rest a g b\/(x.g=g/\x.t ∈ b):=by
 by_cases h:x.g=g/\x.t ∈ b
 .exact .inr h
 .left
  refine List.mem_filter.2 ⟨c,?_⟩
  grind
def xA{st:CS}(f:SInv tr ops st){g:Option<|Nat×Bool}{c:PC}{xs:List Operand}{a:List Ent}(e:cJ ops tr st.env g=some c)(d:mo tr st.env xs=some a)
  (b:bC S H c->(ev S H<|kC a).isSome=true) {x:Obl} (k:x ∈ st.obl) (h:x.g=g) (j:x.t ∈ xs.filterMap cH) (i:bC S H x.pc):(ev S H x.e).isSome=true:=by grind[uL,nW,tE,SInv.obls,SInv.pcs]
theorem fh{e:E}{v:Value}(h:ev1 S H e=some v):ev S H e=some [v]:=by grind[ev1]
theorem gZ{e:E}{v:Value}(h:ev S H e=some [v]):ev1 S H e=some v:=by simp[ev1,h]
def BT{l:LOp}{a:List Ent}(h:(ev S H<|rM l a).isSome=true):(ev S H<|kC a).isSome=true:=by
 unfold rM at h
 grind[kC,ev]
def I6{l:LOp}{b:List Ent}{vs:XV}(e:l≠.pk)(h:ev S H (kC b)=some vs)(a:vs.length=b.length)(c:(ev S H<|rM l b).isSome=true):∃v,aG l vs H=some v/\ev1 S H (rM l b)=some v:=by
 unfold rM at c ⊢;split
 .simp[kC,ev]at h
  split at h
  next y d=>
   simp at h;subst h;obtain⟨v,rfl⟩:=List.length_eq_one_iff.1 a;exact⟨v,rfl,gZ d⟩
  .grind
 grind[ev,ev1]
theorem Inv.push{st:CS}(f:Inv tr ops st S H T){d:Nat}{e:E}{b:PC}{g:Option<|Nat×Bool}{obl:List Obl}{v:Value}(l:zT st.env d=false)(i:nX ops (⟨d,.nil,[],g⟩::st.env) d=true)
  (k:cJ ops tr st.env g=some b) (a:∀x ∈ obl,x ∈ st.obl) (o:(bC S H b->ev1 S H e=some v)/\(¬ bC S H b->v=undef)) :
  Inv tr ops { st with env:=⟨d,e,b,g⟩::st.env,obl:=⟨d,b,e,g⟩::obl } S H<|fZ T (some d) v:=by
 have j:∀y ∈ st.env,y.t≠d:=by
  grind[m6]
 refine⟨SInv.push f.toSInv l i k a,f.len,?_,?_⟩
 .grind[m6,List.mem_cons_self,fZ,slots]
 .intro x c
  cases c with
  | head=>exact⟨λh=>by grind[fZ],λh=>by grind[fZ]⟩
  | tail _ c=>
   have m:=f.ents x c;have n:fZ T (some d) v x.t=T x.t:=by simp[fZ,j x c]
   grind[Fg]
theorem zt{b:List Ent}:∀{xs:List Operand} {a:List Ent},mo tr b xs=some a->a.length=xs.length
 | [],a,h=>by grind[mo]
 | o::xs,a,h=>by
  simp[mo]at h;split at h
  .split at h
   next l c=>simp at h;subst h;simp[zt c]
   .grind
  .grind
def Ss{d:List Ent}{g e f:Operand}{c a b:Ent}(h:mo tr d [g,e,f]=some [c,a,b]):opE tr d g=some c/\opE tr d e=some a/\opE tr d f=some b:=by
 simp[mo]at h
 grind
def AB{st:CS}{g:Option<|Nat×Bool}{d:Operand}{c x:Ent}{a:Bool}{b:PC}(h:wX ops g (cH d) a x=true)(f:opE tr st.env d=some c)
  (i:cJ ops tr st.env g=some b) (l:cJ ops tr st.env x.g=some x.pc) (j:bC S H b) (e:bC S H c.pc) (k:ev1 S H c.e=some (.bool a)):bC S H x.pc:=by
 simp[wX,ar₀]at h;rcases h with h|h
 .grind[uJ]
 .split at h
  all_goals grind[cJ,n0,fm,kj]
def oz{raised:dG}{st A:CS}{o:Oper}{l:LOp}{xs:List Operand}(h:qD P tr ops raised st o=some A)(hr:rsv P raised o=(.l l,xs)) :
  A.out=st.out/\(SInv tr ops st->SInv tr ops A/\∀S H,eZ S H A.obl->eZ S H st.obl) /\
  ∀S H T,Inv tr ops st S H T->eZ S H A.obl->∃T1,bZ P callA lo ops raised o T H=some (T1,H)/\Inv tr ops A S H T1:=by
 unfold qD at h;rw[hr]at h;cases f:cJ ops tr st.env o.guard with
 | none=>rw[f]at h;grind
 | some V=>
 rw[f]at h;simp only at h;cases hd:o.dst with
 | none=>rw[hd]at h;grind
 | some d=>
 rw[hd]at h;simp only at h;split at h
 .grind
 next D=>
  simp[ar₀,Bool.not_eq_true',not_or,Bool.not_eq_true,Bool.not_eq_false]at D;have⟨hn,w⟩:=D;split at h
  .
   rename_i W xa xb c a b u;split at h
   next U=>
    simp[ac₀]at U;have⟨⟨o0,Z⟩,K⟩:=U;simp only[ab₀]at h;have⟨hc,ha,Y⟩:=Ss u;have m:∀x ∈ (if okG o.guard b.g || !(c.g==o.guard) then(if okG o.guard a.g || !(c.g==o.guard) then rest st.obl o.guard ((cH W).toList) else rest (rest st.obl o.guard<|(cH W).toList) a.g ((cH xa).toList))
      else rest (if okG o.guard a.g || !(c.g==o.guard) then rest st.obl o.guard ((cH W).toList) else rest (rest st.obl o.guard<|(cH W).toList) a.g ((cH xa).toList)) b.g ((cH xb).toList)),x ∈ st.obl:=by
     intro x p;split at p
     .split at p
      .exact iw x p
      .exact iw x<|iw x p
     .have p:=iw x p
      split at p
      .exact iw x p
      .exact iw x<|iw x p
    subst h;refine⟨rfl,λg=>⟨SInv.push g hn w f m,λS H i x p I=>?_⟩,λS H T g i=>?_⟩
    .
     have J:bC S H V->(ev S H<|.pick c.e a.e b.e).isSome=true:=λk=>i ⟨d,V,.pick c.e a.e b.e,o.guard⟩ (List.mem_cons_self ..) k;have s:bC S H V->∃r,ev S H c.e=some [.bool r]/\(if r then(ev S H a.e).isSome=true else(ev S H b.e).isSome=true):=by
      intro k;have:=J k;simp[ev]at this;split at this
      next hv=>exact⟨true,hv,by simpa using this⟩
      next hv=>exact⟨false,hv,by simpa using this⟩
      .grind
     have N:∀(sd:Bool) (xo:Operand) (z:Ent),opE tr st.env xo=some z->wX ops o.guard (cH W) sd z=true->okG o.guard z.g=false->c.g=o.guard->x.g=z.g->x.t ∈ (cH xo).toList ->
       (∀r,ev S H c.e=some [.bool r]->(if r then(ev S H a.e).isSome=true else(ev S H b.e).isSome=true)->r=sd->(ev S H z.e).isSome=true)->(ev S H x.e).isSome=true:=by
      intro sd xo z hz n h0 w0 Z0 M r0;have⟨y,hy,e1,e2,e3,e4⟩:=g.obls x p;have ht:cH xo=some x.t:=by
       cases L:cH xo with
       | none=>rw[L]at M;grind
       | some t=>rw[L]at M;simp at M;rw[M]
      have hl:=n0 hz ht;rw[<-e1,nW g hy]at hl;cases hl;simp[wX,h0,Bool.false_or]at n;split at n
      next j Y0 S0=>
       simp[ac₀,beq_iff_eq]at n;obtain⟨rfl,n⟩:=n;split at n
       next oj y0=>
        simp[ac₀,beq_iff_eq]at n;have⟨B,O⟩:=n;have⟨t,q0⟩:=Option.isSome_iff_exists.1 O;have q:=g.pcs z hy;rw[S0]at q;simp[cJ,y0]at q;rw[B,q0]at q;simp[n0 hc q0,Option.map_some,ab₀]at q;rw[<-e2,<-q,fm,kj]at I;have F:=qW g hc;rw[w0,f]at F;simp at F;have⟨r,Q,s0⟩:=s (by rw[F];exact I.1);have a0:=gZ Q;rw[I.2]at a0;simp at a0;rw[<-e3];exact r0 r Q s0 a0.symm
       .grind
      .grind
     rcases l8 o.guard ((cH W).toList) p with B|⟨B,O⟩
     .
      by_cases hA:okG o.guard a.g || !(c.g==o.guard)
      .by_cases C:okG o.guard b.g || !(c.g==o.guard)
       .exact i x (List.mem_cons_of_mem _ (by simp[hA,C,if_true];exact B)) I
       .rcases l8 b.g ((cH xb).toList) B with X|⟨X,h4⟩
        .exact i x (List.mem_cons_of_mem _ (by simp[hA,C,if_true];exact X)) I
        .simp[ar₀,not_or,Bool.not_eq_true,Bool.not_eq_eq_eq_not,Bool.not_true]at C
         exact N false xb b Y K C.1 (by simpa using C.2) X h4 (λr _ hz e=>by subst e;simpa using hz)
      .rcases l8 a.g ((cH xa).toList) B with X|⟨X,h4⟩
       .by_cases C:okG o.guard b.g || !(c.g==o.guard)
        .exact i x (List.mem_cons_of_mem _ (by simp[hA,C,if_true];exact X)) I
        .rcases l8 b.g ((cH xb).toList) X with h5|⟨h5,h6⟩
         .exact i x (List.mem_cons_of_mem _ (by simp[hA,C];exact h5)) I
         .simp[ar₀,not_or,Bool.not_eq_true,Bool.not_eq_eq_eq_not,Bool.not_true]at C
          exact N false xb b Y K C.1 (by simpa using C.2) h5 h6 (λr _ hz e=>by subst e;simpa using hz)
       .simp[ar₀,not_or,Bool.not_eq_true,Bool.not_eq_eq_eq_not,Bool.not_true]at hA
        exact N true xa a ha Z hA.1 (by simpa using hA.2) X h4 (λr _ hz e=>by subst e;simpa using hz)
     .have⟨y,hy,e1,e2,e3,e4⟩:=g.obls x p
      have ht:cH W=some x.t:=by
       cases L:cH W with
       | none=>rw[L]at O;grind
       | some t=>rw[L]at O;simp at O;rw[O]
      have hl:=n0 hc ht;rw[<-e1,nW g hy]at hl;cases hl;have q:=g.pcs c hy;rw[e4,B,f]at q;simp at q;have⟨r,Q,_⟩:=s (by rw[q,e2];exact I);rw[<-e3,Q];rfl
    .
     have J:bC S H V->(ev S H<|.pick c.e a.e b.e).isSome=true:=λk=>i ⟨d,V,.pick c.e a.e b.e,o.guard⟩ (List.mem_cons_self ..) k;by_cases k:bC S H V
     .have c0:=uJ o0 f (qW g.toSInv hc) k
      have G:=(qV g hc).1 c0;have hs:=J k;simp[ev,fh G]at hs;have b0:∃r,ah T W=.bool r:=by
       split at hs
       next e=>simp at e;exact⟨true,e⟩
       next e=>simp at e;exact⟨false,e⟩
       .grind
      have⟨r,g0⟩:=b0;rw[g0]at G;have T0:ev1 S H (.pick c.e a.e b.e)=some (if r then ah T xa else ah T xb):=by
       have R:=fh G;cases r
       .have:=(qV g Y).1<|AB K hc f (qW g.toSInv Y) k c0 G
        simp only[ev1,ev,R,fh this];rfl
       .have:=(qV g ha).1<|AB Z hc f (qW g.toSInv ha) k c0 G
        simp only[ev1,ev,R,fh this];rfl
      refine⟨fZ T (some d) (if r then ah T xa else ah T xb),?_,Inv.push g hn w f m ⟨λ_=>T0,λh=>absurd k h⟩⟩;have hw:=(jk g f).2 k;simp[bZ,hw,if_true,hr,ag₀,al₀,g0,aG,hd]
     .have hw:bY ops T o=false:=by
       cases Y:bY ops T o with
       | false=>rfl
       | true=>exact absurd ((jk g f).1 Y) k
      exact⟨fZ T (some d) undef,by simp[bZ,hw,hd],Inv.push g hn w f m ⟨λh=>absurd h k,λ_=>rfl⟩⟩
   .grind
  .grind
  next l xs l0 b1 a1 es j0 X0 u=>
   split at h
   next U=>
    simp[ab₀]at h;have m:∀x ∈ rest st.obl o.guard (xs.filterMap cH),x ∈ st.obl:=iw;subst h;refine⟨rfl,λg=>⟨SInv.push g hn w f m,λS H i x p I=>?_⟩,λS H T g i=>?_⟩
    .rcases l8 o.guard (xs.filterMap cH) p with B|⟨B,O⟩
     .exact i x (List.mem_cons_of_mem _ B) I
     .exact xA g f u (λk=>BT<|i ⟨d,V,rM l es,o.guard⟩ (List.mem_cons_self ..) k) p B O I
    .by_cases k:bC S H V
     .have e0:∀x ∈ es,bC S H x.pc:=λx p=>uJ (List.all_eq_true.1 U x p) f (pQ g.toSInv u x p) k
      have R:=sG g u e0;have x0:l≠.pk:=by
       intro e;subst e;exact j0 rfl
      have⟨v,z0,H0⟩:=I6 x0 R (by simp[zt u])<|i ⟨d,V,rM l es,o.guard⟩ (List.mem_cons_self ..) k;refine⟨fZ T (some d) v,?_,Inv.push g hn w f m ⟨λ_=>H0,λh=>absurd k h⟩⟩;have hw:=(jk g f).2 k;simp[bZ,hw,if_true,hr,z0,hd]
     .have hw:bY ops T o=false:=by
       cases Y:bY ops T o with
       | false=>rfl
       | true=>exact absurd ((jk g f).1 Y) k
      exact⟨fZ T (some d) undef,by simp[bZ,hw,hd],Inv.push g hn w f m ⟨λh=>absurd h k,λ_=>rfl⟩⟩
   .grind
  .grind
end
section
variable {P:Program}{callA:CallR}{lo n:Nat}{tr:XN}{ops:List Oper}{S:XV}{H:Heap}{T:Raw}
def Nd(tr:XN):Prop:=∀(i j t:Nat),tr[i]?=some t->tr[j]?=some t->i=j
def nr{b e:E}:∀{g:PC} {v:Value},ev1 S H (nL b g e)=some v->(bC S H g->ev1 S H e=some v)/\(¬ bC S H g->ev1 S H b=some v)
 | [],v,h=>⟨λ_=>h,λk=>absurd gP k⟩
 | (c,a)::r,v,h=>by
  have f:bC S H ((c,a)::r)↔ev1 S H c=some (.bool a)/\bC S H r:=by
   rw[<-kj c a,<-fm];rfl
  cases a
  .have d:(match ev S H c with|some [.bool true]=>ev S H b|some [.bool false]=>ev S H (nL b r e)|_=>none)=some [v]:=fh h
   split at d
   .simp_all[gZ]
   .have⟨i,j⟩:=nr<|gZ d
    grind[gZ]
   .grind
  .have d:(match ev S H c with|some [.bool true]=>ev S H (nL b r e)|some [.bool false]=>ev S H b|_=>none)=some [v]:=fh h
   split at d
   .have⟨i,j⟩:=nr<|gZ d
    grind[gZ]
   all_goals simp_all[gZ]
def ux{d e:E}:∀{g:PC},(ev S H<|nL d g e).isSome=true->bC S H g->(ev S H e).isSome=true
 | [],h,_=>h
 | (c,a)::r,h,f=>by
  have b:bC S H ((c,a)::r)↔ev1 S H c=some (.bool a)/\bC S H r:=by
   rw[<-kj c a,<-fm];rfl
  rw[b]at f;have i:=fh f.1;cases a<;>simp[nL,ev,i]at h<;>exact ux h f.2
def oY:∀{l:List<|Nat×E} {vs:List<|Nat×Value},evSets S H l=some vs->(∀q ∈ l,∃v,ev1 S H q.2=some v/\(q.1,v) ∈ vs)/\∀q ∈ vs,∃e,(q.1,e) ∈ l/\ev1 S H e=some q.2
 | [],vs,h=>by simp[evSets]at h;subst h;simp
 | (j,e)::r,vs,h=>by
  simp[evSets]at h;split at h
  next v d=>
   split at h
   next l i=>
    simp at h;subst h;have⟨f,g⟩:=oY i;refine⟨λq c=>?_,λq c=>?_⟩
    .cases c with
     | head=>exact⟨v,d,Wc⟩
     | tail _ c=>have⟨u,a,b⟩:=f q c;exact⟨u,a,by simp[b]⟩
    .cases c with
     | head=>exact⟨e,Wc,d⟩
     | tail _ c=>have⟨u,a,b⟩:=g q c;exact⟨u,by simp[a],b⟩
   .grind
  .grind
def vk:∀{l:List E},evChk S H l=true->∀e ∈ l,(ev S H e).isSome=true
 | [],_,e,b=>by simp at b
 | a::r,h,e,b=>by
  simp[evChk,ac₀]at h;cases b with
  | head=>exact h.1
  | tail _ b=>exact vk h.2 e b
theorem jw:∀(vs:List<|Nat×Value) (S:XV),(setAll S vs).length=S.length
 | [],_=>rfl
 | (j,v)::r,S=>by rw[setAll,jw r];simp
def uh{j:Nat}{u:Value}:∀(vs:List<|Nat×Value) (S:XV),j<S.length->(∀q ∈ vs,q.1=j->q.2=u)->((∃q ∈ vs,q.1=j)\/S[j]?=some u)->(setAll S vs)[j]?=some u
 | [],S,_,_,h=>by
  rcases h with ⟨q,b,_⟩|h
  .grind
  .exact h
 | (i,v)::r,S,d,a,h=>by
  rw[setAll];apply uh r (S.set i v) XL (λq b=>a q (by simp[b]));by_cases c:i=j
  .subst c
   right;have:=a (i,v) Wc rfl;simp at this;simp[this,d]
  .rcases h with ⟨q,b,e⟩|h
   .cases b with
    | head=>exact absurd e c
    | tail _ b=>exact .inl ⟨q,b,e⟩
   .right;rw[List.getElem?_set_ne c];exact h
def BE{a:List Ent}{j:Nat}{e:E}(h:(j,e) ∈ hO tr a):∃x ∈ a,idxOf tr x.t=some j/\e=nL (.cst undef) x.pc x.e:=by grind[hO,Option.map_eq_some_iff]
def o8{a:List Ent}{x:Ent}(c:x ∈ a){j:Nat}(b:idxOf tr x.t=some j):(j,nL (.cst undef) x.pc x.e) ∈ hO tr a:=by grind[hO]
def kE(m:Nd tr){st:CS}(l:Inv tr ops st S H T){vs:List<|Nat×Value}(h:evSets S H (hO tr st.env)=some vs){j t:Nat}(f:tr[j]?=some t):(setAll S vs)[j]?=some (T t):=by
 have⟨s,u⟩:=oY h;have y:j<S.length:=by rw[l.len];exact(List.getElem?_eq_some_iff.1 f).1
 refine uh vs S y (λq A e=>?_) ?_
 .have⟨B,w,o⟩:=u q A
  obtain⟨x,p,d,rfl⟩:=BE w;have g:x.t=t:=by
   have:=dS d;rw[e,f]at this;simpa using this.symm
  have⟨a,b⟩:=nr o;have c:=l.ents x p;by_cases i:bC S H x.pc
  .have:=c.1 i;rw[a i]at this;simp at this;rw[this,g]
  .have:=b i;simp[ev1,ev]at this;rw[<-this,<-g];exact(c.2 i).symm
 .cases r:zT st.env t with
  | false=>exact .inr<|l.slots j t f r
  | true=>
   left;have⟨x,p,e⟩:=m6.1 r;cases d:idxOf tr x.t with
   | none=>exact absurd f (by rw[<-e];exact o5 d)
   | some k=>
    have z:k=j:=m k j t (by rw[<-e];exact dS d) f;have⟨v,_,o⟩:=s _<|o8 p d;exact⟨_,o,z⟩
def vz{st:CS}(c:SInv tr ops st){vs:List<|Nat×Value}(h:evSets S H (hO tr st.env)=some vs){x:Obl}(f:x ∈ st.obl)(d:(idxOf tr x.t).isSome=true)(m:bC S H x.pc):(ev S H x.e).isSome=true:=by
 have⟨y,g,b,i,k,l⟩:=c.obls x f;have⟨j,a⟩:=Option.isSome_iff_exists.1 d;rw[<-b]at a;have⟨v,e,_⟩:=(oY h).1 _<|o8 g a;have:=(nr e).1 Wx
 simp_all[fh]
theorem xJ{a:List Obl}(h:evChk S H (EB a)=true){x:Obl}(c:x ∈ a)(b:bC S H x.pc):(ev S H x.e).isSome=true:=
 ux (vk h _<|List.mem_map.2 ⟨x,c,rfl⟩) b
def eE:Stm->Bool
 | .sets _ _ | .hv .. | .dist _ _=>true
 | _=>false
noncomputable def cG(callA:CallR)(lo n:Nat):List Stm->XV->Heap->Option (XV×Heap)
 | [],S,H=>some (S,H)
 | s::r,S,H=>match exec callA lo n s S H with
  | some (.normal,S',H')=>cG callA lo n r S' H'
  | _=>none
def lL(z:Nd tr){raised:dG}{st q:CS}{o:Oper}{h:HOp}{xs:List Operand}(f:qD P tr ops raised st o=some q)(Y:rsv P raised o=(.h h,xs)) :
  ∃s,q.out=s::st.out/\q.env=[]/\q.obl=[]/\eE s=true /\
   (SInv tr ops st->∀S H r,exec callA lo n s S H=some r->eZ S H st.obl) /\
   (∀S H T w H',Inv tr ops st S H T->exec callA lo n s S H=some (.normal,w,H')->∃X,bZ P callA.ret lo ops raised o T H=some (X,H')/\Inv tr ops q w H' X) /\
   ∀S H T j w H',Inv tr ops st S H T->exec callA lo n s S H=some (.exit j,w,H')->∃p I,w=p::I/\j=bN/\I.length=tr.length/\(∀(j t:Nat),tr[j]?=some t->I[j]?=some (T t))/\bY ops T o=true/\ct callA lo h (xs.map<|ah T) H=some (p,H'):=by
 unfold qD at f;rw[Y]at f;cases b:cJ ops tr st.env o.guard with
 | none=>rw[b]at f;grind
 | some W=>
 rw[b]at f;simp only at f;split at f
 next K i=>
  split at f
  next G=>
   simp only[ab₀]at f;subst f;refine⟨_,rfl,rfl,rfl,rfl,λc S H r a=>?_,λS H T w H' c a=>?_,λS H T j w H' c a=>?_⟩
   .intro x B N
    simp only[exec]at a;split at a
    next vs l=>
     split at a
     next F=>
      by_cases C:(idxOf tr x.t).isSome=true
      .exact vz c l B C N
      .have U:x ∈ st.obl.filter λx=>!(idxOf tr x.t).isSome:=List.mem_filter.2 ⟨B,by simpa using C⟩
       rcases l8 o.guard (xs.filterMap cH) U with L|⟨L,h2⟩
       .exact xJ F L N
       .refine xA c b i (λu=>?_) B L h2 N
        rw[show holds S H W=some true from u]at a;simp only at a;split at a
        next ys V=>simp[V]
        .grind
     .grind
    .grind
   .simp[exec]at a
    split at a
    next vs l=>
     split at a
     .
      have m:∀(v:Value) (J:XV),J=(match o.dst.bind (idxOf tr)with|some d=>(setAll S vs).set d v|none=>setAll S vs)->Inv tr ops { out:=(Stm.hv (hO tr st.env) (EB<|rest (st.obl.filter λx=>!(idxOf tr x.t).isSome) o.guard<|xs.filterMap cH) W (o.dst.bind<|idxOf tr) h<|kC K)::st.out,env:=[],obl:=[] } J H' (fZ T o.dst v):=by
       intro v J D;refine⟨⟨Wc,Wc,Wc⟩,?_,?_,Wc⟩
       .rw[D];split<;>simp[jw,c.len]
       .intro j t A _
        have O:j<(setAll S vs).length:=by rw[jw,c.len];exact(List.getElem?_eq_some_iff.1 A).1
        have M:=kE z c l A;rw[D];cases hd:o.dst with
        | none=>simp[fZ,M]
        | some d=>
         simp[ao₀];cases C:idxOf tr d with
         | none=>
          have:t≠d:=λe=>o5 C (by rw[<-e];exact A);simp[fZ,this,M]
         | some k=>
          simp only;by_cases y:k=j
          .subst y
           have:=dS C;rw[A]at this;simp at this;subst this;simp[fZ,O]
          .have:t≠d:=by
            intro e;subst e;exact y<|z k j _ (dS C) A
           rw[List.getElem?_set_ne y,M];simp[fZ,this]
      split at a
      next u=>
       have g:∀x ∈ K,bC S H x.pc:=λx a=>uJ (List.all_eq_true.1 G x a) b (pQ c.toSInv i x a) u;rw[sG c i g]at a;simp only at a;split at a
       next v Z hsem=>
        simp[ab₀,ad₀,true_and]at a;obtain⟨rfl,rfl⟩:=a;refine⟨fZ T o.dst v,?_,m v _ rfl⟩;have R:=(jk c b).2 u;simp[bZ,R,if_true,Y,hsem]
       .split at a
        .grind
        .grind
      next u=>
       simp[ab₀,ad₀,true_and]at a;obtain⟨rfl,rfl⟩:=a;have Q:¬ bC S H W:=by unfold bC;rw[u];simp
       have R:bY ops T o=false:=by
        cases hb:bY ops T o with
        | false=>rfl
        | true=>exact absurd ((jk c b).1 hb) Q
       exact⟨fZ T o.dst undef,by simp[bZ,R],m undef _ rfl⟩
      .grind
     .grind
    .grind
   .simp[exec]at a
    split at a
    next vs l=>
     split at a
     .split at a
      next u=>
       have g:∀x ∈ K,bC S H x.pc:=λx a=>uJ (List.all_eq_true.1 G x a) b (pQ c.toSInv i x a) u;rw[sG c i g]at a;simp only at a;split at a
       .grind
       .split at a
        next v Z hsem=>
         simp[ab₀,ad₀]at a;obtain⟨O,rfl,rfl⟩:=a;cases O;refine⟨v,_,rfl,rfl,by rw[jw];exact c.len,λj t A=>kE z c l A,(jk c b).2 u,hsem⟩
        .grind
      .grind
      .grind
     .grind
    .grind
  .grind
 .grind
noncomputable def cY(callA:CallR)(lo n:Nat):List Stm->XV->Heap->Option (Value×XV×Heap)
 | [],_,_=>none
 | s::r,S,H=>match exec callA lo n s S H with
  | some (.normal,S',H')=>cY callA lo n r S' H'
  | some (.exit j,p::S',H')=>if j=bN then some (p,S',H') else none
  | _=>none
def iM(u:Nd tr){raised:Nat->dG}:∀(l:XN) (st d:CS),eM P tr ops raised l st=some d->∃R,d.out=R++st.out/\(∀s ∈ R,eE s=true) /\
  (SInv tr ops st->SInv tr ops d) /\
  (SInv tr ops st->∀S H (e:XV->Heap->Prop),(∀p m,e p m->eZ p m d.obl)->(∃p m,cG callA lo n R.reverse S H=some (p,m)/\e p m)->eZ S H st.obl) /\
  ∀S H T g H',Inv tr ops st S H T->cG callA lo n R.reverse S H=some (g,H')->eZ g H' d.obl->∃t,bg P callA.ret lo ops raised l T H=some (t,H')/\Inv tr ops d g H' t
 | [],st,d,h=>by
  simp[eM]at h;subst h;refine⟨[],rfl,Wc,id,λ_ S H e w ⟨p,m,c,k⟩=>?_,λS H T g H' f c _=>?_⟩
  .simp[cG]at c;obtain⟨rfl,rfl⟩:=c;exact w _ _ k
  .simp[cG]at c;obtain⟨rfl,rfl⟩:=c;exact⟨T,rfl,f⟩
 | i::l,st,d,h=>by
  simp[eM]at h;split at h
  next o W=>
   split at h
   next r V=>
    have⟨R,M,N,O,Q,U⟩:=iM u l r d h;cases X:rsv P (raised i) o with
    | mk L xs=>
    cases L with
    | l a0=>
     have⟨B,q,C⟩:=oz (callA:=callA.ret) (lo:=lo) V X;refine⟨R,by rw[M,B],N,λf=>O (q f).1,λf S H e w c=>(q f).2 S H<|Q (q f).1 S H e w c,λS H T g H' f c j=>?_⟩;have v:eZ S H r.obl:=Q (q f.toSInv).1 S H (λa b=>a=g/\b=H') (λa b ⟨ha,hb⟩=>by rw[ha,hb];exact j) ⟨g,H',c,rfl,rfl⟩;have⟨A,D,F⟩:=C S H T f v;have⟨t,G,I⟩:=U S H A g H' F c j;exact⟨t,by simp[bg,W,D,G],I⟩
    | h hop=>
     have⟨s,B,q,C,Y,Z,f6,_⟩:=lL (callA:=callA) (lo:=lo) (n:=n) u V X;have J:SInv tr ops r:=⟨by rw[q];simp,by rw[q];simp,by rw[C];simp⟩;refine⟨R++[s],by rw[M,B];simp,?_,λ_=>O J,λf S H e w ⟨p,m,c,k⟩=>?_,λS H T g H' f c j=>?_⟩
     .intro x c
      rcases List.mem_append.1 c with c|c
      .exact N x c
      .simp at c;rw[c];exact Y
     .simp[List.reverse_append,List.reverse_cons,List.reverse_nil,List.nil_append,List.singleton_append,cG]at c
      split at c
      next z y K=>exact Z f S H _ K
      .grind
     .simp[List.reverse_append,List.reverse_cons,List.reverse_nil,List.nil_append,List.singleton_append,cG]at c
      split at c
      next z y K=>
       have⟨A,D,F⟩:=f6 S H T z y f K;have⟨t,G,I⟩:=U z y A g H' F c j;exact⟨t,by simp[bg,W,D,G],I⟩
      .grind
   .grind
  .grind
def OU(P:Program)(callA:CallR)(lo:Nat)(ops:List Oper)(raised:Nat->dG)(l:XN)(T:Raw)(H:Heap)(p:Value)(T1:Raw)(H':Heap):Prop:=
 ∃l1 i l2 H1 o h xs,l=l1++i::l2/\bg P callA.ret lo ops raised l1 T H=some (T1,H1)/\ops[i]?=some o/\bY ops T1 o=true/\rsv P (raised i) o=(.h h,xs)/\ct callA lo h (xs.map<|ah T1) H1=some (p,H')
def qt(u:Nd tr){raised:Nat->dG}:∀(l:XN) (st c:CS),eM P tr ops raised l st=some c->∃R,c.out=R++st.out /\
  (SInv tr ops st->∀S H r,cY callA lo n R.reverse S H=some r->eZ S H st.obl) /\
  ∀S H T p d H',Inv tr ops st S H T->cY callA lo n R.reverse S H=some (p,d,H')->∃m,d.length=tr.length/\(∀(j t:Nat),tr[j]?=some t->d[j]?=some (m t))/\OU P callA lo ops raised l T H p m H'
 | [],st,c,h=>by
  simp[eM]at h;subst h;exact⟨[],rfl,λ_ S H r a=>by simp[cY]at a,λS H T p d H' b a=>by simp[cY]at a⟩
 | i::l,st,c,h=>by
  simp[eM]at h;split at h
  next o I=>
   split at h
   next w h1=>
    have⟨R,V,W,X⟩:=qt u l w c h;cases J:rsv P (raised i) o with
    | mk U xs=>
    cases U with
    | l a0=>
     have⟨A,x,Y⟩:=oz (callA:=callA.ret) (lo:=lo) h1 J;refine⟨R,by rw[V,A],λb S H r a=>(x b).2 S H<|W (x b).1 S H r a,λS H T p d H' b a=>?_⟩;have v:eZ S H w.obl:=W (x b.toSInv).1 S H _ a;have⟨m,B,C⟩:=Y S H T b v;have⟨z,D,F,L,K,M,y,o',G,g,N,O,Q⟩:=X S H m p d H' C a;exact⟨z,D,F,i::L,K,M,y,o',G,g,by rw[N];rfl,by simp[bg,I,B,O],Q⟩
    | h hop=>
     have⟨s,A,x,Y,f4,Z,f6,f7⟩:=lL (callA:=callA) (lo:=lo) (n:=n) u h1 J;refine⟨R++[s],by rw[V,A];simp,λb S H r a=>?_,λS H T p d H' b a=>?_⟩
     .simp[List.reverse_append,List.reverse_cons,List.reverse_nil,List.nil_append,List.singleton_append,cY]at a
      split at a
      next q k f=>exact Z b S H _ f
      next j p' q k f=>exact Z b S H _ f
      .grind
     .simp[List.reverse_append,List.reverse_cons,List.reverse_nil,List.nil_append,List.singleton_append,cY]at a
      split at a
      next q k f=>
       have⟨m,B,C⟩:=f6 S H T q k b f;have⟨z,D,F,L,K,M,y,o',G,g,N,O,Q⟩:=X q k m p d H' C a;exact⟨z,D,F,i::L,K,M,y,o',G,g,by rw[N];rfl,by simp[bg,I,B,O],Q⟩
      next j p' q k f=>
       have⟨p2,S3,e,hj,k1,k2,k3,k4⟩:=f7 S H T j _ k b f;rw[if_pos hj]at a;simp[ab₀,ad₀]at a;obtain⟨rfl,rfl,rfl⟩:=a;simp[List.cons.injEq]at e;obtain⟨rfl,rfl⟩:=e;exact⟨T,k1,k2,[],i,l,H,o,hop,xs,rfl,rfl,I,k3,J,k4⟩
      .grind
   .grind
  .grind
end
section
variable {P:Program}{callA:CallR}{lo n:Nat}{tr:XN}{S:XV}{H:Heap}{T:Raw}
def l6{s:Stm}(h:eE s=true){c:XV}{H':Heap}{b:Ex}(a:exec callA lo n s S H=some (b,c,H')):b=.normal\/(b=.exit bN/\∃p d,c=p::d):=by
 cases s<;>simp[eE]at h
 .simp[exec]at a
  repeat' (split at a)
  all_goals (first|(simp at a;done)|(simp at a;exact .inl a.1.symm))
 .simp[exec]at a
  repeat' (split at a)
  all_goals (first|(simp at a;done)|(simp at a;exact .inl a.1.symm)|(simp at a;exact .inr ⟨a.1.symm,_,_,a.2.1.symm⟩))
 .simp[exec]at a
  repeat' (split at a)
  all_goals (first|(simp at a;done)|(simp at a;exact .inl a.1.symm))
def rE:∀{l:List Stm},(∀s ∈ l,eE s=true)->∀{S a:XV} {H H':Heap} {b:Ex},exec callA lo n (ez l) S H=some (b,a,H') ->
  (b=.normal/\cG callA lo n l S H=some (a,H'))\/(b=.exit bN/\∃p c,a=p::c/\cY callA lo n l S H=some (p,c,H'))
 | [],_,S,a,H,H',b,h=>by obtain⟨rfl,rfl,rfl⟩:=h;exact .inl ⟨rfl,rfl⟩
 | [s],d,S,a,H,H',b,h=>by
  simp[ez]at h;rcases l6 (d s Wc) h with rfl|⟨rfl,p,c,rfl⟩
  all_goals grind[cG,cY]
 | s::t::r,d,S,a,H,H',b,h=>by
  simp[ez,exec]at h;split at h
  .rcases rE (l:=t::r) (λx j=>d x Wx) h with ⟨e,f⟩|⟨e,p,g,f,i⟩
   all_goals grind[cG,cY]
  .rcases l6 (d s Wc) h with rfl|⟨rfl,p,c,rfl⟩
   all_goals grind[cY]
def mE{c:Stm}:∀{l:List Stm},(∀s ∈ l,eE s=true)->∀{S b:XV} {H H':Heap} {d:Ex},exec callA lo n (ez<|l++[c]) S H=some (d,b,H') ->
  (∃a f,cG callA lo n l S H=some (a,f)/\exec callA lo n c a f=some (d,b,H'))\/(d=.exit bN/\∃p a,b=p::a/\cY callA lo n l S H=some (p,a,H'))
 | [],_,S,b,H,H',d,h=>.inl ⟨S,H,rfl,h⟩
 | [s],e,S,b,H,H',d,h=>by
  simp[am₀,List.nil_append,ez,exec]at h;split at h
  .grind[cG]
  .rcases l6 (e s Wc) h with rfl|⟨rfl,p,a,rfl⟩
   all_goals grind[cY]
 | s::t::r,e,S,b,H,H',d,h=>by
  simp only[am₀,ez,exec]at h;split at h
  .rcases mE (l:=t::r) (λx u=>e x Wx) Wy with ⟨g,i,j,k⟩|⟨m,p,g,o,q⟩
   all_goals grind[cG,cY]
  .rcases l6 (e s Wc) h with rfl|⟨rfl,p,a,rfl⟩
   all_goals grind[cY]
theorem BM{a:dd}{vs:XV}{r:Value×Heap}(h:hsem a lo .callC vs H=some r):hsem a lo (.call false) vs H=some r:=by
 unfold hsem at h;split at h
 all_goals first
  | (rename_i e;cases e;simp only[hsem];exact h)
  | (rename_i e;exact HOp.noConfusion e)
  | (cases h)
theorem An{s:Stm}(h:eE s=true):eE (ke s)=true:=by unfold ke;split<;>first|rfl|exact h
theorem Dz{s:Stm}{b:XV}{H':Heap}(a:exec callA lo n (ke s) S H=some (.normal,b,H')):exec callA lo n s S H=some (.normal,b,H'):=by
 unfold ke at a;split at a
 .simp[exec]at a ⊢
  split at a
  all_goals grind[BM,ct]
 all_goals grind[exec,hsem,ct]
def GR{s:Stm}(f:eE s=true){c:Ex}{d:XV}{H':Heap}(b:exec callA lo n (ke s) S H=some (c,d,H')):c=.normal:=by
 cases s<;>simp[eE]at f
 .simp[ke,exec]at b
  repeat' (split at b)
  all_goals (first|(simp at b;done)|(simp at b;exact b.1.symm))
 next l e g dst o a=>
  cases o<;>simp[ke,exec]at b
  case call r=>
   cases r<;>simp[ke,exec]at b
   all_goals (repeat' (split at b))
   all_goals (first|(simp at b;done)|(simp at b;exact b.1.symm)|(simp_all [ct];done))
  all_goals (repeat' (split at b))
  all_goals (first|(simp at b;done)|(simp at b;exact b.1.symm)|(simp_all [ct];done))
 .simp[ke,exec]at b
  repeat' (split at b)
  all_goals (first|(simp at b;done)|(simp at b;exact b.1.symm))
def lI:∀{l:List Stm} {S a:XV} {H H':Heap},cG callA lo n (l.map ke) S H=some (a,H')->cG callA lo n l S H=some (a,H')
 | [],_,_,_,_,h=>h
 | s::r,S,a,H,H',h=>by
  simp[ag₀,cG]at h;split at h
  next d c b=>
   simp[cG,Dz b];exact lI h
  .grind
theorem oR:∀{l:List Stm},(∀s ∈ l,eE s=true)->∀{S:XV} {H:Heap},cY callA lo n (l.map ke) S H=none
 | [],_,_,_=>rfl
 | s::r,a,S,H=>by
  simp[ag₀,cY];split
  .exact oR (λx c=>a x (by simp[c]))
  next j p e d b=>
   have:=GR (a s Wc) b;cases this
  .rfl
theorem qn{ops:List Oper}{draw:Bool}{st:CS}:(cz P ops draw st).env=st.env/\(cz P ops draw st).obl=st.obl:=by unfold cz;split<;>exact⟨rfl,rfl⟩
def kS{ops:List Oper}{draw:Bool}{st:CS}(h:∀s ∈ st.out,eE s=true):∀s ∈ (cz P ops draw st).out,eE s=true:=by grind[cz,An]
def oH{l m:List Stm}{S c b:XV}{H a H':Heap}:cG callA lo n l S H=some (c,a)->cG callA lo n m c a=some (b,H')->cG callA lo n (l++m) S H=some (b,H'):=by
 induction l generalizing S H with
 | nil=>grind[cG]
 | cons s r d=>
  grind[cG]
def jN:∀{l m:List Stm},(∀S H,cY callA lo n m S H=none)->∀{S:XV} {H:Heap} {r:Value×XV×Heap},cY callA lo n (l++m) S H=some r->cY callA lo n l S H=some r
 | [],m,a,S,H,r,h=>by rw[List.nil_append,a]at h;cases h
 | s::l,m,a,S,H,r,h=>by
  simp[am₀,cY]at h ⊢;split at h
  next c b d=>
   exact jN a h
  .exact h
  .grind
theorem uj{l:List<|Nat×E}{a:List E}(S:XV)(H:Heap):cY callA lo n [.sets l a] S H=none:=by grind[cY,exec]
theorem ef:∀{l m:List Stm} {S a:XV} {H H':Heap},cG callA lo n (l++m) S H=some (a,H')->∃c b,cG callA lo n l S H=some (c,b)/\cG callA lo n m c b=some (a,H')
 | [],m,S,a,H,H',h=>⟨S,H,rfl,h⟩
 | s::r,m,S,a,H,H',h=>by
  simp[am₀,cG]at h;split at h
  .have⟨e,d,f,g⟩:=ef h
   grind[cG]
  .grind
theorem kQ{ops:List Oper}{draw:Bool}{st:CS}{m:List Stm}{c:XV}{H':Heap}(h:cG callA lo n ((cz P ops draw st).out.reverse++m) S H=some (c,H')):cG callA lo n (st.out.reverse++m) S H=some (c,H'):=by
 have⟨j,g,a,f⟩:=ef h;refine oH ?_ f;unfold cz at a;split at a
 .cases e:st.out with
  | nil=>rw[e]at a;exact a
  | cons x r=>
   rw[e]at a;simp[List.reverse_cons]at a ⊢;have⟨k,i,d,b⟩:=ef a;rw[<-List.map_reverse]at d;apply oH (lI d);split at b
   .exact b
   .exact lI (l:=[x]) b
 .exact a
def tT:∀{l m:List Stm} {S:XV} {H:Heap} {r:Value×XV×Heap},cY callA lo n (l++m) S H=some r->(cY callA lo n l S H=some r)\/(∃b a,cG callA lo n l S H=some (b,a)/\cY callA lo n m b a=some r)
 | [],m,S,H,r,h=>.inr ⟨S,H,rfl,h⟩
 | s::l,m,S,H,r,h=>by
  simp[am₀,cY]at h;split at h
  .rcases tT h with h|⟨d,c,e,f⟩
   all_goals grind[cY,cG]
  all_goals grind[cY]
def iW{ops:List Oper}{draw:Bool}{st:CS}{m:List Stm}(d:∀s ∈ st.out,eE s=true)(j:∀S H,cY callA lo n m S H=none){p:Value}{c:XV}{H':Heap}(h:cY callA lo n ((cz P ops draw st).out.reverse++m) S H=some (p,c,H')) :
  (draw=false/\cY callA lo n st.out.reverse S H=some (p,c,H'))\/(draw=true/\qQ P ops=true/\∃x r b a,st.out=x::r/\cG callA lo n r.reverse S H=some (b,a)/\exec callA lo n x b a=some (.exit bN,p::c,H')):=by
 replace h:=jN j h;unfold cz at h;split at h
 next g=>
  subst g;right;refine⟨rfl,?_⟩;cases k:st.out with
  | nil=>grind[cY]
  | cons x r=>
   rw[k]at h d;simp at h;rw[<-List.map_reverse]at h;rcases tT h with h|⟨b,a,e,f⟩
   .grind[oR]
   .split at f
    next i=>
     refine⟨i,x,r,b,a,rfl,lI e,?_⟩
     grind[cY]
    .have:=oR (callA:=callA) (lo:=lo) (n:=n) (l:=[x]) (λs o=>d s Wx) (S:=b) (H:=a)
     simp_all
 simp_all
def lS{ops:List Oper}{draw:Bool}{st:CS}:∃m,flush tr st=st.out.reverse++m/\flush tr (cz P ops draw st)=(cz P ops draw st).out.reverse++m/\(m=[]\/∃a b,m=[.sets a b]):=by
 unfold flush;rw[(qn (P:=P) (ops:=ops) (draw:=draw) (st:=st)).1,(qn (P:=P) (ops:=ops) (draw:=draw) (st:=st)).2];simp only;split
 .exact⟨[],Wc,Wc,.inl rfl⟩
 .exact⟨_,rfl,rfl,.inr ⟨_,_,rfl⟩⟩
def rH{ops:List Oper}{draw:Bool}{st:CS}{a:XV}{H':Heap}(h:cG callA lo n (flush tr<|cz P ops draw st) S H=some (a,H')):cG callA lo n (flush tr st) S H=some (a,H'):=by
 have⟨m,b,c,_⟩:=lS (P:=P) (tr:=tr) (ops:=ops) (draw:=draw) (st:=st)
 grind[kQ]
def DB{m:List Stm}(h:m=[]\/∃a b,m=[.sets a b])(S:XV)(H:Heap):cY callA lo n m S H=none:=by
 rcases h with rfl|⟨a,b,rfl⟩
 .rfl
 grind[uj]
def dH(tr:XN)(S:XV)(T:Raw):Prop:=S.length=tr.length/\∀(j t:Nat),tr[j]?=some t->S[j]?=some (T t)
def nj{ops:List Oper}(h:dH tr S T):Inv tr ops dC S H T:=
 ⟨⟨by simp[dC],by simp[dC],by simp[dC]⟩,h.1,λj t a _=>h.2 j t a,by simp[dC]⟩
theorem Inv.done{ops:List Oper}{st:CS}(b:Inv tr ops st S H T)(e:(hO tr st.env).isEmpty=true)(a:Nd tr):dH tr S T:=by
 refine⟨b.len,λj t d=>?_⟩;have c:hO tr st.env=[]:=Wx
 have:=kE a b (vs:=[]) (by rw[c];rfl) d
 assumption
def oV(P:Program)(ops:List Oper)(draw:Bool)(T:Raw):Prop:=
 ∀q ∈ gY P ops draw,∃x y,bH P ops q.1=some x/\bH P ops q.2=some y/\(aT (ah T x)=none\/aT (ah T x)≠aT (ah T y))
theorem nZ{o:Operand}{x:Ent}(a:dH tr S T)(h:opE tr [] o=some x):ev1 S H x.e=some (ah T o):=
 (qV (ops:=[]) (st:=dC) (nj a) Xf).1 (by
  cases o<;>simp[opE]at h
  .simp[jn]at h;grind[gP]
  all_goals grind[gP])
def ja(o:dH tr S T)(ops:List Oper):∀(k:List<|Nat×Nat) (d l:List Stm),k.foldlM (init:=d) (λd q=>
   match bH P ops q.1,bH P ops q.2 with
   | some x,some y=>match opE tr [] x,opE tr [] y with
    | some a,some c=>some<|d++[Stm.dist a.e c.e]
    | _,_=>none
   | _,_=>none)=some l->∃m,l=d++m/\(∀s ∈ m,eE s=true)/\∀i H',cG callA lo n m S H=some (i,H')->i=S/\H'=H/\∀q ∈ k,∃x y,bH P ops q.1=some x/\bH P ops q.2=some y/\(aT (ah T x)=none\/aT (ah T x)≠aT (ah T y))
 | [],d,l,h=>by
  simp at h;subst h;exact⟨[],Wc,Wc,λi H' j=>by simp[cG]at j;exact⟨j.1.symm,j.2.symm,Wc⟩⟩
 | q::k,d,l,h=>by
  simp[List.foldlM_cons,Option.bind_eq_bind,ae₀]at h;have⟨r,g,B⟩:=h;split at g<;>try simp at g;done
  rename_i x y j F;split at g<;>try simp at g;done
  rename_i a c C D;simp at g;subst g;have⟨m,t,u,v⟩:=ja o ops k _ l B;refine⟨.dist a.e c.e::m,by rw[t];simp,?_,λi H' b=>?_⟩
  .intro s e
   cases e with
   | head=>rfl
   | tail _ e=>exact u s e
  .simp[cG,exec,nZ (H:=H) o C,nZ (H:=H) o D]at b
   split at b
   next J I e=>
    split at e
    next f=>
     simp at e;obtain⟨rfl,rfl⟩:=e;have⟨w,z,A⟩:=v i H' b;refine⟨w,z,λG p=>?_⟩;cases p with
     | head=>exact⟨x,y,j,F,f⟩
     | tail _ p=>exact A G p
    .grind
   .grind
def oW:∀(c:List Stm),(∀s ∈ c,∃a b,s=.dist a b)->∀(S:XV) (H:Heap),cY callA lo n c S H=none
 | [],_,_,_=>rfl
 | s::r,h,S,H=>by
  obtain⟨a,b,rfl⟩:=h s Wc;simp[cY];split
  .exact oW r (λx d=>h x Yb) _ _
  all_goals grind[exec]
def tK(ops:List Oper):∀(e:List<|Nat×Nat) (d l:List Stm),e.foldlM (init:=d) (λd q=>
   match bH P ops q.1,bH P ops q.2 with
   | some x,some y=>match opE tr [] x,opE tr [] y with
    | some a,some c=>some<|d++[Stm.dist a.e c.e]
    | _,_=>none
   | _,_=>none)=some l->(∀s ∈ d,∃a b,s=Stm.dist a b)->∀s ∈ l,∃a b,s=Stm.dist a b
 | [],d,l,h,i=>by simp_all
 | q::e,d,l,h,i=>by
  simp[List.foldlM_cons,Option.bind_eq_bind,ae₀]at h;have⟨f,j,g⟩:=h;refine tK ops e _ l g λs k=>?_
  grind
def zN(e:Nd tr){ops:List Oper}{st:CS}{raised:Nat->dG}{l:XN}(h:eM P tr ops raised l dC=some st)(I:dH tr S T){s:XV}{H':Heap}
  (r:cG callA lo n (flush tr st) S H=some (s,H')):∃g,bg P callA.ret lo ops raised l T H=some (g,H')/\dH tr s g:=by
 have⟨R,F,V,B,W,C⟩:=iM (callA:=callA) (lo:=lo) (n:=n) e l dC st h;have p:st.out=R:=by rw[F];simp[dC]
 have d:=nj (ops:=ops) (H:=H) I;unfold flush at r;simp only[p]at r;split at r
 next a=>
  simp only[ac₀]at a;have b:eZ s H' st.obl:=by
   intro x c w;have f:=B d.toSInv;have⟨y,N,O,X,Y,Z⟩:=f.obls x c;by_cases o:(idxOf tr x.t).isSome=true
   .have⟨j,L⟩:=Option.isSome_iff_exists.1 o
    have:=o8 (tr:=tr) N (by rw[O];exact L);have K:hO tr st.env=[]:=by simpa using a.1
    rw[K]at this;grind
   .have D:x ∈ st.obl.filter λx=>!(idxOf tr x.t).isSome:=List.mem_filter.2 ⟨c,Yj⟩
    have J:(st.obl.filter λx=>!(idxOf tr x.t).isSome)=[]:=by simpa[EB]using a.2
    rw[J]at D;grind
  have⟨g,v,u⟩:=C S H T s H' d r b;exact⟨g,v,u.done a.1 e⟩
 .have⟨A,z,G,k⟩:=ef r
  simp[cG,exec]at k;split at k
  next U Q i=>
   split at i
   next vs q=>
    split at i
    next m=>
     simp at i k;obtain⟨rfl,rfl⟩:=i;obtain⟨rfl,rfl⟩:=k;have f:=B d.toSInv;have b:eZ A z st.obl:=by
      intro x c w;by_cases o:(idxOf tr x.t).isSome=true
      .exact vz f q c o w
      .exact xJ m (List.mem_filter.2 ⟨c,Yj⟩) w
     have⟨g,v,u⟩:=C S H T A z d G b;exact⟨g,v,by rw[jw];exact u.len,λj t M=>kE e u q M⟩
    .grind
   .grind
  .grind
def pC{ops:List Oper}{raised:Nat->dG}{i:Nat}:∀{l:XN} {st a:CS},eM P tr ops raised (l++[i]) st=some a->∃b o,eM P tr ops raised l st=some b/\ops[i]?=some o/\qD P tr ops (raised i) b o=some a
 | [],st,a,h=>by
  simp[List.nil_append,eM]at h;split at h
  next o d=>
   split at h
   next b c=>simp at h;subst h;exact⟨st,o,rfl,d,c⟩
   .grind
  .grind
 | j::l,st,a,h=>by
  simp[am₀,eM]at h;split at h
  next o d=>
   split at h
   next b c=>
    have⟨e,m,f,g,k⟩:=pC h;exact⟨e,m,by simp[eM,d,c];exact f,g,k⟩
   .grind
  .grind
def Dl(P:Program)(callA:CallR)(lo:Nat)(ops:List Oper)(draw:Bool)(T:Raw)(H:Heap)(p:Value)(T1:Raw)(H':Heap):Prop:=
 (draw=false/\OU P callA lo ops (bq P ops draw) (du P ops draw) T H p T1 H') \/
 (draw=true/\qQ P ops=true/\∃H1 o h xs,ops[ops.dropLast.length]?=some o/\bg P callA.ret lo ops (bq P ops true) (du P ops.dropLast true) T H=some (T1,H1)/\bY ops T1 o=true/\rsv P (bq P ops true ops.dropLast.length) o=(.h h,xs) /\
  ct callA lo h (xs.map<|ah T1) H1=some (p,H'))
def FK{P:Program}{k:dG}{o:Oper}(h:∃a xs,resolve P o.op=(.h a,xs)):∃a xs,rsv P k o=(.h a,xs):=by have⟨a,xs,e⟩:=h;unfold rsv uZ;rw[e];cases a<;>first|exact⟨_,_,rfl⟩|(cases k<;>exact⟨_,_,rfl⟩)
def sH(j:Nd tr){ops:List Oper}{draw:Bool}{st:CS}(h:eM P tr ops (bq P ops draw) (du P ops draw) dC=some st)(Q:dH tr S T){p:Value}{s:XV}{H':Heap}
  (v:(draw=false/\cY callA lo n st.out.reverse S H=some (p,s,H'))\/(draw=true/\qQ P ops=true/\∃x r f d,st.out=x::r/\cG callA lo n r.reverse S H=some (f,d)/\exec callA lo n x f d=some (.exit bN,p::s,H'))) :
  ∃G,dH tr s G/\Dl P callA lo ops draw T H p G H':=by
 have g:=nj (ops:=ops) (H:=H) Q;rcases v with ⟨rfl,v⟩|⟨rfl,K,x,r,f,d,U,I,J⟩
 .have⟨R,w,M,z⟩:=qt (callA:=callA) (lo:=lo) (n:=n) j _ dC st h
  have c:st.out=R:=by rw[w];simp[dC]
  rw[c]at v;have⟨t,B,u,C⟩:=z S H T p s H' g v;exact⟨t,⟨B,u⟩,.inl ⟨rfl,C⟩⟩
 .have i:=K
  unfold qQ at i;simp only[ac₀,beq_iff_eq]at i;have⟨a,q,_⟩:=i;rw[q]at h;have⟨k,o,B,u,C⟩:=pC h;have b:∃m xs,rsv P (bq P ops true ops.dropLast.length) o=(.h m,xs):=by
   rw[u]at a;simp[Option.any_some,iu]at a;exact FK (by
    cases V:resolve P o.op with
    | mk F xs=>
     rw[V]at a;cases F with
     | l l=>simp at a
     | h m=>exact⟨m,xs,rfl⟩)
  have⟨m,xs,b⟩:=b;have⟨y,A,f2,f3,f4,N,f6,O⟩:=lL (callA:=callA) (lo:=lo) (n:=n) j C b;rw[U]at A;simp[List.cons.injEq]at A;obtain⟨rfl,rfl⟩:=A;have⟨R,w,e2,L,M,z⟩:=iM (callA:=callA) (lo:=lo) (n:=n) j _ dC k B;have c:k.out=R:=by rw[w];simp[dC]
  rw[c]at I;have D:eZ f d k.obl:=N (L g.toSInv) f d _ J;have⟨t,W,X⟩:=z S H T f d g I D;have⟨p2,S3,e,hj,Y,Z,q3,q4⟩:=O f d t _ _ H' X J;simp[List.cons.injEq]at e;obtain⟨rfl,rfl⟩:=e;exact⟨t,⟨Y,Z⟩,.inr ⟨rfl,K,d,o,m,xs,u,W,q3,b,q4⟩⟩
def kD(e:Nd tr){ops:List Oper}{draw:Bool}{st:CS}{raised:Nat->dG}{l:XN}(h:eM P tr ops raised l dC=some st):(∀s ∈ flush tr (cz P ops draw st),eE s=true)/\∀s ∈ st.out,eE s=true:=by
 have⟨R,g,i,_⟩:=iM (callA:=(λ_ _ _ _=>none:CallR)) (lo:=0) (n:=0) e l dC st h;have d:st.out=R:=by rw[g];simp[dC]
 have f:∀s ∈ st.out,eE s=true:=by rw[d];exact i
 refine⟨λs c=>?_,f⟩;have⟨m,_,j,k⟩:=lS (P:=P) (tr:=tr) (ops:=ops) (draw:=draw) (st:=st);rw[j]at c;rcases List.mem_append.1 c with c|c
 .exact kS f s XK
 .rcases k with rfl|⟨a,b,rfl⟩
  .grind
  .simp at c;rw[c];rfl
def l7(f:Nd tr){ops:List Oper}{draw:Bool}{l:List Stm}(h:gU P tr ops draw=some l)(r:dH tr S T){o:Ex}{k:XV}{H':Heap}
  (I:exec callA lo n (ez l) S H=some (o,k,H')):(o=.normal/\(draw=true->gN P ops=true) /\
   ∃b,bg P callA.ret lo ops (bq P ops draw) (du P ops draw) T H=some (b,H')/\dH tr k b/\oV P ops draw b) \/
   (o=.exit bN/\(draw=true->gN P ops=true)/\∃p j b,k=p::j/\dH tr j b/\Dl P callA lo ops draw T H p b H'):=by
 unfold gU at h;split at h
 next st ds a d=>
  simp at h;subst h;unfold dV at a;split at a
  .grind
  next t=>
   have v:=kD f a (draw:=draw);have⟨m,i,G,_⟩:=ja (callA:=callA) (lo:=lo) (n:=n) (H:=H) r ops _ [] ds d;simp at i;subst i;rcases rE (l:=flush tr (cz P ops draw st)++ds) (λs J=>by
    grind) I with ⟨rfl,C⟩|⟨rfl,p,j,rfl,D⟩
   .have⟨j,x,y,z⟩:=ef C
    have⟨b,w,q⟩:=zN f a r<|rH y;have⟨K,c,_,u⟩:=ja (callA:=callA) (lo:=lo) (n:=n) (H:=x) q ops _ [] ds d;simp at c;subst c;obtain⟨rfl,rfl,F⟩:=u _ _ z;refine .inl ⟨rfl,λe=>?_,b,w,q,F⟩
    simp_all
   .have g:=jN (oW ds<|tK ops _ [] ds d Wc) D
    have⟨m,_,A,B⟩:=lS (P:=P) (tr:=tr) (ops:=ops) (draw:=draw) (st:=st);rw[A]at g;have⟨b,w,q⟩:=sH f a r<|iW v.2 (DB B) g
    grind
 .grind
def Gj(d:Nd tr){ops:List Oper}{draw:Bool}{c:Operand}{l:List Stm}{e:E}(h:gq P tr ops draw c=some (l,e))(K:dH tr S T){f:XV}{H':Heap}
  (j:cG callA lo n l S H=some (f,H')) {v:Value} (hv:ev1 f H' e=some v):(draw=true->gN P ops=true) /\
   ∃b,bg P callA.ret lo ops (bq P ops draw) (du P ops draw) T H=some (b,H')/\dH tr f b/\oV P ops draw b/\ah b c=v:=by
 unfold gq at h;have N:∀(st:CS) (ds:List Stm) (x:Ent),dV P tr ops draw=some st->mU P tr ops draw=some ds->opE tr [] c=some x->l=flush tr (cz P ops draw st)++ds->e=x.e ->
   (draw=true->gN P ops=true)/\∃b,bg P callA.ret lo ops (bq P ops draw) (du P ops draw) T H=some (b,H')/\dH tr f b/\oV P ops draw b/\ah b c=v:=by
  intro st ds x a r hc F he;unfold dV at a;split at a
  .grind
  next q=>
   rw[F]at j;have⟨u,o,V,W⟩:=ef j;have⟨b,D,w⟩:=zN d a K<|rH V;have⟨m',i,_,s⟩:=ja (callA:=callA) (lo:=lo) (n:=n) (H:=o) w ops _ [] ds r;simp at i;subst i;obtain⟨rfl,rfl,Y⟩:=s _ _ W;refine⟨λe=>by simp_all,b,D,w,Y,?_⟩
   grind[nZ]
 split at h
 next st a r=>
  split at h
  next g=>
   split at h
   next x p=>
    split at h
    next hg=>
     simp[ab₀,ad₀]at h;obtain⟨F,rfl⟩:=h;unfold dV at a;split at a
     .grind
     next q=>
      have⟨R,e1,e2,Q,e4,U⟩:=iM (callA:=callA) (lo:=lo) (n:=n) d _ dC st a;have L:st.out=R:=by grind[dC]
      have A:=nj (ops:=ops) (H:=H) K;have t:=Q A.toSInv;have k:=qW t p;have J:x.g=none:=Wx
      rw[J]at k;simp[cJ]at k;have C:cG callA lo n R.reverse S H=some (f,H')/\eZ f H' st.obl:=by
       have O:∀(u:XV) (o:Heap),ev1 u o x.e=some v->(∀y ∈ rest (st.obl.filter λx=>!(idxOf tr x.t).isSome) none ((cH c).toList),bC u o y.pc->(ev u o y.e).isSome=true)->eZ u o st.obl:=by
        intro u o Z I y M hh;by_cases hi:(idxOf tr y.t).isSome=true
        .grind[Option.isSome_iff_exists,hO,SInv.obls]
        .have hm:y ∈ st.obl.filter λx=>!(idxOf tr x.t).isSome:=List.mem_filter.2 ⟨M,Wx⟩
         rcases l8 none ((cH c).toList) hm with X|⟨X,h2⟩
         .simp_all
         .have⟨z,hz,z1,z2,z3,z4⟩:=t.obls y M
          have ht:cH c=some y.t:=by
           simp_all
          have G:=n0 p ht;rw[<-z1,nW t hz]at G
          simp_all[fh]
       rw[<-F]at j;split at j
       next a0=>
        replace j:=kQ (m:=[]) (by rw[List.append_nil];exact j)
        simp_all
       .replace j:=kQ j
        grind[ef,cG,exec,evSets,setAll,xJ]
      have⟨b,D,w⟩:=U S H T f H' A C.1 C.2;refine⟨λe=>by simp_all,b,D,w.done g d,?_,?_⟩
      .have⟨m,B,_,s⟩:=ja (callA:=callA) (lo:=lo) (n:=n) (H:=H') (w.done g d) ops _ [] [] r
       simp at B;subst B;exact(s f H' rfl).2.2
      .have:=(qV w p).1 (by grind[gP])
       simp_all
    .grind
   .grind
  grind
 all_goals grind
def Au(i:Nd tr){ops:List Oper}{draw:Bool}{c:Operand}{l:List Stm}{e:E}(h:gq P tr ops draw c=some (l,e))(t:dH tr S T):∀s ∈ l,eE s=true:=by
 unfold gq at h;have d:∀(st:CS) (ds:List Stm),dV P tr ops draw=some st->mU P tr ops draw=some ds->l=flush tr (cz P ops draw st)++ds->∀s ∈ l,eE s=true:=by
  intro st ds a f k s b;unfold dV at a;split at a
  .grind
  .have⟨m,g,o,_⟩:=ja (callA:=(λ_ _ _ _=>none:CallR)) (lo:=0) (n:=0) (H:=[]) t ops _ [] ds f
   simp at g;subst g;rw[k]at b;rcases List.mem_append.1 b with b|b
   .exact(kD i a).1 s b
   .exact o s b
 split at h
 next st a f=>
  split at h
  .split at h
   .split at h
    .simp[ab₀,ad₀]at h
     obtain⟨k,rfl⟩:=h;unfold dV at a;split at a
     .grind
     .have⟨R,q,r,_⟩:=iM (callA:=(λ_ _ _ _=>none:CallR)) (lo:=0) (n:=0) i _ dC st a
      have j:st.out=R:=by rw[q];simp[dC]
      intro s b;rw[<-k]at b;have p:∀s ∈ st.out,eE s=true:=by rw[j];exact r
      split at b
      .exact kS p s X6
      .rcases List.mem_append.1 b with b|b
       .exact kS p s X6
       .simp at b;rw[b];rfl
    .grind
   .grind
  .split at h
   .simp at h;obtain⟨rfl,rfl⟩:=h;exact d st [] a f Wc
   .grind
 .split at h
  .simp at h;obtain⟨rfl,rfl⟩:=h;exact d _ _ Xf Xf rfl
  .grind
 .grind
def Gi(b:Nd tr){ops:List Oper}{draw:Bool}{c:Operand}{l:List Stm}{e:E}(h:gq P tr ops draw c=some (l,e))(k:dH tr S T){p:Value}{j:XV}{H':Heap}
  (d:cY callA lo n l S H=some (p,j,H')):(draw=true->gN P ops=true)/\∃f,dH tr j f/\Dl P callA lo ops draw T H p f H':=by
 unfold gq at h;have r:∀(st:CS) (ds:List Stm),dV P tr ops draw=some st->mU P tr ops draw=some ds->l=flush tr (cz P ops draw st)++ds->(draw=true->gN P ops=true)/\∃f,dH tr j f/\Dl P callA lo ops draw T H p f H':=by
  intro st ds a i o;unfold dV at a;split at a
  .grind
  .rw[o]at d
   have g:=jN (oW ds<|tK ops _ [] ds i Wc) d;have⟨m,_,s,t⟩:=lS (P:=P) (tr:=tr) (ops:=ops) (draw:=draw) (st:=st);rw[s]at g;exact⟨λe=>by simp_all,sH b a k<|iW (kD b a (draw:=draw)).2 (DB t) g⟩
 split at h
 next st a i=>
  split at h
  .split at h
   .split at h
    .simp at h
     obtain⟨o,rfl⟩:=h;unfold dV at a;split at a
     .grind
     .refine⟨λe=>by simp_all,?_⟩
      have q:=(kD b a (draw:=draw)).2;rw[<-o]at d;split at d
      .exact sH b a k<|iW (m:=[]) q (λ_ _=>rfl) (by rw[List.append_nil];exact d)
      .exact sH b a k<|iW q (λS H=>uj S H) d
    .grind
   .grind
  grind
 all_goals grind
end
end Go.Abs
