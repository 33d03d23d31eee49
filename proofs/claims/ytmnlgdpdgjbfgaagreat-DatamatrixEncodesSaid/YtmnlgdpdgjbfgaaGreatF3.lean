/- Lemmas. -/
import Derived.Test.YtmnlgdpdgjbfgaaGreatF2
set_option linter.all false
namespace Go.Abs
abbrev Raw:=Nat->Value
def ay(T:Raw):Operand->Value
 | .tmp t=>T t
 | .const v=>v
 | .global g=>.pointer<|some ⟨g,0,none⟩
 | .func f=>.func (.func f) #[] #[]
def eV(T:Raw)(dst:Option Nat)(v:Value):Raw:=
 match dst with
 | some d=>λt=>if t=d then v else T t
 | none=>T
def vJ(T:Raw)(t:Nat)(want:Bool):Bool:=
 match T t with
 | .bool b=>b==want
 | _=>false
def bR(ops:List Oper)(T:Raw)(o:Oper):Bool:=
 match o.guard with
 | none=>true
 | some (j,want)=>match ops[j]? with
  | some oj=>match oj.dst with
   | some t=>vJ T t want
   | none=>false
  | none=>false
def bV(P:Program)(callA:dq)(lo:Nat)(ops:List Oper)(raised:Bool)(o:Oper)(T:Raw)(H:Heap):Option<|Raw×Heap:=
 if bR ops T o then
  match resolve P o.op with
  | (.l l,xs)=>match aJ l (xs.map<|ay T) H with
   | some v=>some (eV T o.dst v,H)
   | none=>none
  | (.h h,xs)=>match hsem callA lo (cG raised h) (xs.map<|ay T) H with
   | some (v,H')=>some (eV T o.dst v,H')
   | none=>none
 else some (eV T o.dst undef,H)
def bZ(P:Program)(callA:dq)(lo:Nat)(ops:List Oper)(raised:Nat->Bool):List Nat->Raw->Heap->Option (Raw×Heap)
 | [],T,H=>some (T,H)
 | i::r,T,H=>match ops[i]? with
  | some o=>match bV P callA lo ops (raised i) o T H with
   | some (T',H')=>bZ P callA lo ops raised r T' H'
   | none=>none
  | none=>none
section
variable {P:Program}{callA:dq}{lo:Nat}{tr:List Nat}{ops:List Oper}{S:List Value}{H:Heap}{T:Raw}
def ax(S:List Value)(H:Heap)(pc:PC):Prop:=holds S H pc=some true
theorem fS:ax S H []:=rfl
theorem ef:∀(p q:PC),ax S H (p++q)↔ax S H p/\ax S H q
 | [],q=>by simp[ax,holds]
 | (c,a)::p,q=>by
  have b:=ef p q
  grind[ax,holds]
theorem jx(c:E)(a:Bool):ax S H [(c,a)]↔ev1 S H c=some (.bool a):=by grind[ax,holds]
def Dr(S:List Value)(H:Heap)(T:Raw)(x:Ent):Prop:=
 (ax S H x.pc->ev1 S H x.e=some (T x.t))/\(¬ ax S H x.pc->T x.t=undef)
structure SInv (tr:List Nat)(ops:List Oper)(st:CS):Prop where
 pcs:∀x ∈ st.env,cD ops tr st.env x.g=some x.pc
 uniq:∀x ∈ st.env,st.env.find? (λy=>y.t==x.t)=some x
 obls:∀x ∈ st.obl,∃y ∈ st.env,y.t=x.t/\y.pc=x.pc/\y.e=x.e/\y.g=x.g
structure Inv (tr:List Nat)(ops:List Oper)(st:CS)(S:List Value)(H:Heap)(T:Raw):Prop extends SInv tr ops st where
 len:S.length=tr.length
 slots:∀(j t:Nat),tr[j]?=some t->xz st.env t=false->S[j]?=some (T t)
 ents:∀x ∈ st.env,Dr S H T x
theorem dB:∀{tr:List Nat} {t j:Nat},idxOf tr t=some j->tr[j]?=some t
 | [],t,j,h=>by grind[idxOf]
 | x::r,t,j,h=>by
  unfold idxOf at h;split at h
  .grind
  .simp at h
   obtain⟨k,a,rfl⟩:=h;simpa using dB a
theorem nO:∀{tr:List Nat} {t j:Nat},idxOf tr t=none->tr[j]?≠some t
 | [],t,j,_=>by simp
 | x::r,t,j,h=>by
  unfold idxOf at h;split at h
  .simp at h
  next e=>
   cases j with
   | zero=>simpa using e
   | succ j=>simp at h;simpa using nO h
theorem lQ{a:List Ent}{t:Nat}:xz a t=true↔∃x ∈ a,x.t=t:=by simp[xz]
theorem yH{st:CS}(a:Inv tr ops st S H T){t:Nat}{x:Ent}(h:jF tr st.env t=some x):x.t=t/\Dr S H T x/\cD ops tr st.env x.g=some x.pc:=by
 unfold jF at h;split at h
 next y d=>
  simp at h;subst h;have b:=List.mem_of_find?_eq_some d;have c:=List.find?_some d;simp at c;exact⟨c,a.ents _ b,a.pcs _ b⟩
 .simp at h
  obtain⟨j,f,rfl⟩:=h;have e:xz st.env t=false:=by
   grind[lQ]
  have:=a.slots j t (dB f) e;refine⟨rfl,⟨λ_=>?_,λh=>absurd fS h⟩,rfl⟩
  grind[ev1,ev]
theorem pU{st:CS}(e:Inv tr ops st S H T){o:Operand}{x:Ent}(h:opE tr st.env o=some x) :
  (ax S H x.pc->ev1 S H x.e=some (ay T o))/\cD ops tr st.env x.g=some x.pc/\(∀t,bz o=some t->x.t=t/\jF tr st.env t=some x):=by
 cases o<;>simp only[opE]at h
 .have⟨b,c,d⟩:=yH e h
  refine⟨λf=>by rw[c.1 f,b];rfl,d,λg a=>?_⟩
  grind[bz]
 .split at h
  .simp at h;subst h;exact⟨λ_=>by rfl,rfl,λt a=>by grind[bz]⟩
  .simp at h
 .simp at h;subst h;exact⟨λ_=>by rfl,rfl,λt a=>by grind[bz]⟩
 .simp at h;subst h;exact⟨λ_=>by rfl,rfl,λt a=>by grind[bz]⟩
theorem qm{st:CS}(c:Inv tr ops st S H T):∀{xs:List Operand} {b:List Ent},lX tr st.env xs=some b->(∀x ∈ b,ax S H x.pc)->ev S H (jT b)=some (xs.map<|ay T)
 | [],b,h,_=>by grind[lX,jT,ev]
 | o::xs,b,h,d=>by
  simp[lX]at h;split at h
  next a e=>
   split at h
   next l f=>
    simp at h;subst h;have i:=(pU c e).1<|d a (by simp);have j:=qm c f (λx g=>d x (by simp[g]))
    grind[ev,ev1,jT]
   .simp at h
  .simp at h
theorem Fu{st:CS}(a:SInv tr ops st){t:Nat}{x:Ent}(h:jF tr st.env t=some x):cD ops tr st.env x.g=some x.pc:=by
 unfold jF at h;split at h
 .grind[SInv.pcs]
 .simp at h
  obtain⟨j,b,rfl⟩:=h;rfl
theorem mJ{st:CS}(a:SInv tr ops st){y:Ent}(b:y ∈ st.env):jF tr st.env y.t=some y:=by grind[jF,SInv.uniq]
theorem pV{st:CS}(a:SInv tr ops st){o:Operand}{x:Ent}(h:opE tr st.env o=some x):cD ops tr st.env x.g=some x.pc:=by
 cases o<;>simp only[opE]at h
 .grind[Fu]
 .split at h
  .simp at h;subst h;rfl
  .simp at h
 .simp at h;subst h;rfl
 .simp at h;subst h;rfl
theorem mQ{a:List Ent}{o:Operand}{x:Ent}(h:opE tr a o=some x){t:Nat}(b:bz o=some t):jF tr a t=some x:=by cases o<;>simp[bz]at b;subst b;exact h
theorem oX{st:CS}(c:SInv tr ops st):∀{xs:List Operand} {a:List Ent},lX tr st.env xs=some a->∀x ∈ a,cD ops tr st.env x.g=some x.pc
 | [],a,h,x,b=>by grind[lX]
 | o::xs,a,h,x,b=>by
  simp[lX]at h;split at h
  .split at h
   next l d=>
    simp at h;subst h;cases b with
    | head=>grind[pV]
    | tail _ b=>exact oX c d x b
   .simp at h
  .simp at h
theorem sQ{b:List Ent}:∀{xs:List Operand} {c:List Ent},lX tr b xs=some c->∀t,t ∈ xs.filterMap bz->∃x ∈ c,jF tr b t=some x
 | [],c,h,t,a=>by simp at a
 | o::xs,c,h,t,a=>by
  simp[lX]at h;split at h
  .split at h
   next l d=>
    simp at h;subst h;simp[List.filterMap_cons]at a;split at a
    .have⟨x,f,e⟩:=sQ d t a;simp_all
    .cases a with
     | head=>grind[mQ]
     | tail _ a=>have⟨x,f,e⟩:=sQ d t a;simp_all
   .simp at h
  .simp at h
theorem rN:∀{c:List Ent} {x:Ent},x ∈ c->(ev S H<|jT c).isSome=true->(ev S H x.e).isSome=true
 | a::r,x,b,h=>by
  simp[jT,ev]at h;split at h
  next y d=>
   split at h
   next z e=>
    cases b with
    | head=>simp[d]
    | tail _ b=>exact rN b (by simp[e])
   .simp at h
  .simp at h
theorem jC{st:CS}(i:Inv tr ops st S H T){o:Oper}{d:PC}(h:cD ops tr st.env o.guard=some d):bR ops T o=true↔ax S H d:=by
 unfold cD at h;unfold bR;split at h
 .grind[fS]
 next j f e=>
  split at h
  next m a=>
   split at h
   next t k=>
    simp at h;obtain⟨x,l,rfl⟩:=h;have⟨g,b,_⟩:=yH i l;simp[e,a,k];rw[ef,jx,vJ,<-g];by_cases c:ax S H x.pc
    .have:=b.1 c
     grind
    .have:=b.2 c
     grind[undef]
   .simp at h
  .simp at h
theorem sN{st:CS}{g a:Option<|Nat×Bool}{b c:PC}(h:okG g a=true)(e:cD ops tr st.env g=some b)(d:cD ops tr st.env a=some c)(f:ax S H b):ax S H c:=by grind[okG,cD,fS]
def du(S:List Value)(H:Heap)(obl:List Obl):Prop:=∀x ∈ obl,ax S H x.pc->(ev S H x.e).isSome=true
theorem vz{a:List Ent}{d:Nat}{new:Ent}(b:new.t=d){t:Nat}(c:t≠d):jF tr (new::a) t=jF tr a t:=by grind[jF]
theorem sL{a:List Ent}{d:Nat}{new:Ent}(f:new.t=d){g:Option<|Nat×Bool}(c:(match g with|some (j,_)=>(match ops[j]? with|some o=>!(o.dst==some d)|none=>true)|none=>true)=true) :
  cD ops tr (new::a) g=cD ops tr a g:=by
 unfold cD;cases g with
 | none=>rfl
 | some q=>
  have⟨j,e⟩:=q;simp only at c ⊢;cases h:ops[j]? with
  | none=>rfl
  | some o=>
   simp only at c ⊢;cases b:o.dst with
   | none=>rfl
   | some t=>
    simp_all[vz]
theorem SInv.push{st:CS}(hI:SInv tr ops st){d:Nat}{e:E}{pc:PC}{g:Option<|Nat×Bool}{obl:List Obl}(hn:xz st.env d=false)(hgd:mM ops (⟨d,.nil,[],g⟩::st.env) d=true)
  (hpc:cD ops tr st.env g=some pc) (hsub:∀x ∈ obl,x ∈ st.obl):SInv tr ops { st with env:=⟨d,e,pc,g⟩::st.env,obl:=⟨d,pc,e,g⟩::obl }:=by
 simp only[mM,List.all_cons,ac₀]at hgd;have⟨hg1,hg2⟩:=hgd;have hne:∀y ∈ st.env,y.t≠d:=by
  grind[lQ]
 refine⟨?_,?_,?_⟩
 .intro x hx
  cases hx with
  | head=>rw[sL rfl hg1];exact hpc
  | tail _ hx=>
   rw[sL rfl<|List.all_eq_true.1 hg2 x hx];exact hI.pcs x hx
 all_goals grind[List.mem_cons_self,uniq,obls]
theorem gw{a:List Obl}{g:Option<|Nat×Bool}{c:List Nat}:∀x ∈ rest a g c,x ∈ a:=λ_ b=>(List.mem_filter.1 b).1
theorem ko{a:List Obl}(g:Option<|Nat×Bool)(b:List Nat){x:Obl}(c:x ∈ a):x ∈ rest a g b\/(x.g=g/\x.t ∈ b):=by
 by_cases h:x.g=g/\x.t ∈ b
 .exact .inr h
 .left
  refine List.mem_filter.2 ⟨c,?_⟩
  grind
theorem ux{st:CS}(f:SInv tr ops st){g:Option<|Nat×Bool}{c:PC}{xs:List Operand}{a:List Ent}(e:cD ops tr st.env g=some c)(d:lX tr st.env xs=some a)
  (b:ax S H c->(ev S H<|jT a).isSome=true) {x:Obl} (k:x ∈ st.obl) (h:x.g=g) (j:x.t ∈ xs.filterMap bz) (i:ax S H x.pc):(ev S H x.e).isSome=true:=by grind[sQ,mJ,rN,SInv.obls,SInv.pcs]
theorem eb{e:E}{v:Value}(h:ev1 S H e=some v):ev S H e=some [v]:=by grind[ev1]
theorem fe{e:E}{v:Value}(h:ev S H e=some [v]):ev1 S H e=some v:=by simp[ev1,h]
theorem AJ{l:LOp}{a:List Ent}(h:(ev S H<|qL l a).isSome=true):(ev S H<|jT a).isSome=true:=by
 unfold qL at h
 grind[jT,ev]
theorem GC{l:LOp}{b:List Ent}{vs:List Value}(e:l≠.pk)(h:ev S H (jT b)=some vs)(a:vs.length=b.length)(c:(ev S H<|qL l b).isSome=true):∃v,aJ l vs H=some v/\ev1 S H (qL l b)=some v:=by
 unfold qL at c ⊢;split
 .simp[jT,ev]at h
  split at h
  next y d=>
   simp at h;subst h;obtain⟨v,rfl⟩:=List.length_eq_one_iff.1 a;exact⟨v,rfl,fe d⟩
  .simp at h
 grind[ev,ev1]
theorem Inv.push{st:CS}(hI:Inv tr ops st S H T){d:Nat}{e:E}{pc:PC}{g:Option<|Nat×Bool}{obl:List Obl}{v:Value}(hn:xz st.env d=false)(hgd:mM ops (⟨d,.nil,[],g⟩::st.env) d=true)
  (hpc:cD ops tr st.env g=some pc) (hsub:∀x ∈ obl,x ∈ st.obl) (hv:(ax S H pc->ev1 S H e=some v)/\(¬ ax S H pc->v=undef)) :
  Inv tr ops { st with env:=⟨d,e,pc,g⟩::st.env,obl:=⟨d,pc,e,g⟩::obl } S H<|eV T (some d) v:=by
 have hne:∀y ∈ st.env,y.t≠d:=by
  grind[lQ]
 refine⟨SInv.push hI.toSInv hn hgd hpc hsub,hI.len,?_,?_⟩
 .grind[lQ,List.mem_cons_self,eV,slots]
 .intro x hx
  cases hx with
  | head=>exact⟨λh=>by grind[eV],λh=>by grind[eV]⟩
  | tail _ hx=>
   have h1:=hI.ents x hx;have h2:eV T (some d) v x.t=T x.t:=by simp[eV,hne x hx]
   grind[Dr]
theorem yS{b:List Ent}:∀{xs:List Operand} {a:List Ent},lX tr b xs=some a->a.length=xs.length
 | [],a,h=>by grind[lX]
 | o::xs,a,h=>by
  simp[lX]at h;split at h
  .split at h
   next l c=>simp at h;subst h;simp[yS c]
   .simp at h
  .simp at h
theorem Rn{d:List Ent}{g e f:Operand}{c a b:Ent}(h:lX tr d [g,e,f]=some [c,a,b]):opE tr d g=some c/\opE tr d e=some a/\opE tr d f=some b:=by
 simp[lX]at h
 grind
theorem yf{st:CS}{g:Option<|Nat×Bool}{d:Operand}{c x:Ent}{a:Bool}{b:PC}(h:ub ops g (bz d) a x=true)(f:opE tr st.env d=some c)
  (i:cD ops tr st.env g=some b) (l:cD ops tr st.env x.g=some x.pc) (j:ax S H b) (e:ax S H c.pc) (k:ev1 S H c.e=some (.bool a)):ax S H x.pc:=by
 simp[ub,ar₀]at h;rcases h with h|h
 .grind[sN]
 .split at h
  all_goals grind[cD,mQ,ef,jx]
theorem oD{raised:Bool}{st A:CS}{o:Oper}{l:LOp}{xs:List Operand}(h:pH P tr ops raised st o=some A)(hr:resolve P o.op=(.l l,xs)) :
  A.out=st.out/\(SInv tr ops st->SInv tr ops A/\∀S H,du S H A.obl->du S H st.obl) /\
  ∀S H T,Inv tr ops st S H T->du S H A.obl->∃T1,bV P callA lo ops raised o T H=some (T1,H)/\Inv tr ops A S H T1:=by
 unfold pH at h;rw[hr]at h;cases f:cD ops tr st.env o.guard with
 | none=>rw[f]at h;simp at h
 | some V=>
 rw[f]at h;simp only at h;cases hd:o.dst with
 | none=>rw[hd]at h;simp at h
 | some d=>
 rw[hd]at h;simp only at h;split at h
 .simp at h
 next D=>
  simp[ar₀,Bool.not_eq_true',not_or,Bool.not_eq_true,Bool.not_eq_false]at D;have⟨hn,w⟩:=D;split at h
  .
   rename_i W xa xb c a b u;split at h
   next U=>
    simp[ac₀]at U;have⟨⟨n0,Z⟩,K⟩:=U;simp only[ab₀]at h;have⟨hc,ha,Y⟩:=Rn u;have m:∀x ∈ (if okG o.guard b.g || !(c.g==o.guard) then(if okG o.guard a.g || !(c.g==o.guard) then rest st.obl o.guard ((bz W).toList) else rest (rest st.obl o.guard<|(bz W).toList) a.g ((bz xa).toList))
      else rest (if okG o.guard a.g || !(c.g==o.guard) then rest st.obl o.guard ((bz W).toList) else rest (rest st.obl o.guard<|(bz W).toList) a.g ((bz xa).toList)) b.g ((bz xb).toList)),x ∈ st.obl:=by
     intro x p;split at p
     .split at p
      .exact gw x p
      .exact gw x<|gw x p
     .have p:=gw x p
      split at p
      .exact gw x p
      .exact gw x<|gw x p
    subst h;refine⟨rfl,λg=>⟨SInv.push g hn w f m,λS H i x p I=>?_⟩,λS H T g i=>?_⟩
    .
     have J:ax S H V->(ev S H<|.pick c.e a.e b.e).isSome=true:=λk=>i ⟨d,V,.pick c.e a.e b.e,o.guard⟩ (List.mem_cons_self ..) k;have s:ax S H V->∃r,ev S H c.e=some [.bool r]/\(if r then(ev S H a.e).isSome=true else(ev S H b.e).isSome=true):=by
      intro k;have:=J k;simp[ev]at this;split at this
      next hv=>exact⟨true,hv,by simpa using this⟩
      next hv=>exact⟨false,hv,by simpa using this⟩
      .simp at this
     have N:∀(sd:Bool) (xo:Operand) (z:Ent),opE tr st.env xo=some z->ub ops o.guard (bz W) sd z=true->okG o.guard z.g=false->c.g=o.guard->x.g=z.g->x.t ∈ (bz xo).toList ->
       (∀r,ev S H c.e=some [.bool r]->(if r then(ev S H a.e).isSome=true else(ev S H b.e).isSome=true)->r=sd->(ev S H z.e).isSome=true)->(ev S H x.e).isSome=true:=by
      intro sd xo z hz n k0 r0 T0 M p0;have⟨y,hy,e1,e2,e3,e4⟩:=g.obls x p;have ht:bz xo=some x.t:=by
       cases L:bz xo with
       | none=>rw[L]at M;simp at M
       | some t=>rw[L]at M;simp at M;rw[M]
      have hl:=mQ hz ht;rw[<-e1,mJ g hy]at hl;cases hl;simp[ub,k0,Bool.false_or]at n;split at n
      next j S0 z0=>
       simp[ac₀,beq_iff_eq]at n;obtain⟨rfl,n⟩:=n;split at n
       next oj w0=>
        simp[ac₀,beq_iff_eq]at n;have⟨B,O⟩:=n;have⟨t,o0⟩:=Option.isSome_iff_exists.1 O;have q:=g.pcs z hy;rw[z0]at q;simp[cD,w0]at q;rw[B,o0]at q;simp[mQ hc o0,Option.map_some,ab₀]at q;rw[<-e2,<-q,ef,jx]at I;have F:=pV g hc;rw[r0,f]at F;simp at F;have⟨r,Q,q0⟩:=s (by rw[F];exact I.1);have b0:=fe Q;rw[I.2]at b0;simp at b0;rw[<-e3];exact p0 r Q q0 b0.symm
       .simp at n
      .simp at n
     rcases ko o.guard ((bz W).toList) p with B|⟨B,O⟩
     .
      by_cases hA:okG o.guard a.g || !(c.g==o.guard)
      .by_cases C:okG o.guard b.g || !(c.g==o.guard)
       .exact i x (List.mem_cons_of_mem _ (by simp[hA,C,if_true];exact B)) I
       .rcases ko b.g ((bz xb).toList) B with X|⟨X,h4⟩
        .exact i x (List.mem_cons_of_mem _ (by simp[hA,C,if_true];exact X)) I
        .simp[ar₀,not_or,Bool.not_eq_true,Bool.not_eq_eq_eq_not,Bool.not_true]at C
         exact N false xb b Y K C.1 (by simpa using C.2) X h4 (λr _ hz e=>by subst e;simpa using hz)
      .rcases ko a.g ((bz xa).toList) B with X|⟨X,h4⟩
       .by_cases C:okG o.guard b.g || !(c.g==o.guard)
        .exact i x (List.mem_cons_of_mem _ (by simp[hA,C,if_true];exact X)) I
        .rcases ko b.g ((bz xb).toList) X with h5|⟨h5,h6⟩
         .exact i x (List.mem_cons_of_mem _ (by simp[hA,C];exact h5)) I
         .simp[ar₀,not_or,Bool.not_eq_true,Bool.not_eq_eq_eq_not,Bool.not_true]at C
          exact N false xb b Y K C.1 (by simpa using C.2) h5 h6 (λr _ hz e=>by subst e;simpa using hz)
       .simp[ar₀,not_or,Bool.not_eq_true,Bool.not_eq_eq_eq_not,Bool.not_true]at hA
        exact N true xa a ha Z hA.1 (by simpa using hA.2) X h4 (λr _ hz e=>by subst e;simpa using hz)
     .have⟨y,hy,e1,e2,e3,e4⟩:=g.obls x p
      have ht:bz W=some x.t:=by
       cases L:bz W with
       | none=>rw[L]at O;simp at O
       | some t=>rw[L]at O;simp at O;rw[O]
      have hl:=mQ hc ht;rw[<-e1,mJ g hy]at hl;cases hl;have q:=g.pcs c hy;rw[e4,B,f]at q;simp at q;have⟨r,Q,_⟩:=s (by rw[q,e2];exact I);rw[<-e3,Q];rfl
    .
     have J:ax S H V->(ev S H<|.pick c.e a.e b.e).isSome=true:=λk=>i ⟨d,V,.pick c.e a.e b.e,o.guard⟩ (List.mem_cons_self ..) k;by_cases k:ax S H V
     .have e0:=sN n0 f (pV g.toSInv hc) k
      have G:=(pU g hc).1 e0;have hs:=J k;simp[ev,eb G]at hs;have c0:∃r,ay T W=.bool r:=by
       split at hs
       next e=>simp at e;exact⟨true,e⟩
       next e=>simp at e;exact⟨false,e⟩
       .simp at hs
      have⟨r,h0⟩:=c0;rw[h0]at G;have H0:ev1 S H (.pick c.e a.e b.e)=some (if r then ay T xa else ay T xb):=by
       have R:=eb G;cases r
       .have:=(pU g Y).1<|yf K hc f (pV g.toSInv Y) k e0 G
        simp only[ev1,ev,R,eb this];rfl
       .have:=(pU g ha).1<|yf Z hc f (pV g.toSInv ha) k e0 G
        simp only[ev1,ev,R,eb this];rfl
      refine⟨eV T (some d) (if r then ay T xa else ay T xb),?_,Inv.push g hn w f m ⟨λ_=>H0,λh=>absurd k h⟩⟩;have hw:=(jC g f).2 k;simp[bV,hw,if_true,hr,ag₀,al₀,h0,aJ,hd]
     .have hw:bR ops T o=false:=by
       cases Y:bR ops T o with
       | false=>rfl
       | true=>exact absurd ((jC g f).1 Y) k
      exact⟨eV T (some d) undef,by simp[bV,hw,hd],Inv.push g hn w f m ⟨λh=>absurd h k,λ_=>rfl⟩⟩
   .simp at h
  .simp at h
  next l xs l0 X0 W0 es m0 R0 u=>
   split at h
   next U=>
    simp[ab₀]at h;have m:∀x ∈ rest st.obl o.guard (xs.filterMap bz),x ∈ st.obl:=gw;subst h;refine⟨rfl,λg=>⟨SInv.push g hn w f m,λS H i x p I=>?_⟩,λS H T g i=>?_⟩
    .rcases ko o.guard (xs.filterMap bz) p with B|⟨B,O⟩
     .exact i x (List.mem_cons_of_mem _ B) I
     .exact ux g f u (λk=>AJ<|i ⟨d,V,qL l es,o.guard⟩ (List.mem_cons_self ..) k) p B O I
    .by_cases k:ax S H V
     .have g0:∀x ∈ es,ax S H x.pc:=λx p=>sN (List.all_eq_true.1 U x p) f (oX g.toSInv u x p) k
      have R:=qm g u g0;have s0:l≠.pk:=by
       intro e;subst e;exact m0 rfl
      have⟨v,x0,y0⟩:=GC s0 R (by simp[yS u])<|i ⟨d,V,qL l es,o.guard⟩ (List.mem_cons_self ..) k;refine⟨eV T (some d) v,?_,Inv.push g hn w f m ⟨λ_=>y0,λh=>absurd k h⟩⟩;have hw:=(jC g f).2 k;simp[bV,hw,if_true,hr,x0,hd]
     .have hw:bR ops T o=false:=by
       cases Y:bR ops T o with
       | false=>rfl
       | true=>exact absurd ((jC g f).1 Y) k
      exact⟨eV T (some d) undef,by simp[bV,hw,hd],Inv.push g hn w f m ⟨λh=>absurd h k,λ_=>rfl⟩⟩
   .simp at h
  .simp at h
end
section
variable {P:Program}{callA:CallR}{lo n:Nat}{tr:List Nat}{ops:List Oper}{S:List Value}{H:Heap}{T:Raw}
def Nd(tr:List Nat):Prop:=∀(i j t:Nat),tr[i]?=some t->tr[j]?=some t->i=j
theorem ma{b e:E}:∀{g:PC} {v:Value},ev1 S H (lu b g e)=some v->(ax S H g->ev1 S H e=some v)/\(¬ ax S H g->ev1 S H b=some v)
 | [],v,h=>⟨λ_=>h,λk=>absurd fS k⟩
 | (c,a)::r,v,h=>by
  have f:ax S H ((c,a)::r)↔ev1 S H c=some (.bool a)/\ax S H r:=by
   rw[<-jx c a,<-ef];rfl
  cases a
  .have d:(match ev S H c with|some [.bool true]=>ev S H b|some [.bool false]=>ev S H (lu b r e)|_=>none)=some [v]:=eb h
   split at d
   .simp_all[fe]
   .have⟨i,j⟩:=ma<|fe d
    grind[fe]
   .simp at d
  .have d:(match ev S H c with|some [.bool true]=>ev S H (lu b r e)|some [.bool false]=>ev S H b|_=>none)=some [v]:=eb h
   split at d
   .have⟨i,j⟩:=ma<|fe d
    grind[fe]
   all_goals simp_all[fe]
theorem tK{d e:E}:∀{g:PC},(ev S H<|lu d g e).isSome=true->ax S H g->(ev S H e).isSome=true
 | [],h,_=>h
 | (c,a)::r,h,f=>by
  have b:ax S H ((c,a)::r)↔ev1 S H c=some (.bool a)/\ax S H r:=by
   rw[<-jx c a,<-ef];rfl
  rw[b]at f;have i:=eb f.1;cases a<;>simp[lu,ev,i]at h<;>exact tK h f.2
theorem nK:∀{l:List<|Nat×E} {vs:List<|Nat×Value},evSets S H l=some vs->(∀q ∈ l,∃v,ev1 S H q.2=some v/\(q.1,v) ∈ vs)/\∀q ∈ vs,∃e,(q.1,e) ∈ l/\ev1 S H e=some q.2
 | [],vs,h=>by simp[evSets]at h;subst h;simp
 | (j,e)::r,vs,h=>by
  simp[evSets]at h;split at h
  next v d=>
   split at h
   next l i=>
    simp at h;subst h;have⟨f,g⟩:=nK i;refine⟨λq c=>?_,λq c=>?_⟩
    .cases c with
     | head=>exact⟨v,d,by simp⟩
     | tail _ c=>have⟨u,a,b⟩:=f q c;exact⟨u,a,by simp[b]⟩
    .cases c with
     | head=>exact⟨e,by simp,d⟩
     | tail _ c=>have⟨u,a,b⟩:=g q c;exact⟨u,by simp[a],b⟩
   .simp at h
  .simp at h
theorem uC:∀{l:List E},evChk S H l=true->∀e ∈ l,(ev S H e).isSome=true
 | [],_,e,b=>by simp at b
 | a::r,h,e,b=>by
  simp[evChk,ac₀]at h;cases b with
  | head=>exact h.1
  | tail _ b=>exact uC h.2 e b
theorem jM:∀(vs:List<|Nat×Value) (S:List Value),(setAll S vs).length=S.length
 | [],_=>rfl
 | (j,v)::r,S=>by rw[setAll,jM r];simp
theorem su{j:Nat}{u:Value}:∀(vs:List<|Nat×Value) (S:List Value),j<S.length->(∀q ∈ vs,q.1=j->q.2=u)->((∃q ∈ vs,q.1=j)\/S[j]?=some u)->(setAll S vs)[j]?=some u
 | [],S,_,_,h=>by
  rcases h with ⟨q,b,_⟩|h
  .simp at b
  .exact h
 | (i,v)::r,S,d,a,h=>by
  rw[setAll];apply su r (S.set i v) (by simpa using d) (λq b=>a q (by simp[b]));by_cases c:i=j
  .subst c
   right;have:=a (i,v) (by simp) rfl;simp at this;simp[this,d]
  .rcases h with ⟨q,b,e⟩|h
   .cases b with
    | head=>exact absurd e c
    | tail _ b=>exact .inl ⟨q,b,e⟩
   .right;rw[List.getElem?_set_ne c];exact h
theorem zq{a:List Ent}{j:Nat}{e:E}(h:(j,e) ∈ gF tr a):∃x ∈ a,idxOf tr x.t=some j/\e=lu (.cst undef) x.pc x.e:=by grind[gF,Option.map_eq_some_iff]
theorem nS{a:List Ent}{x:Ent}(c:x ∈ a){j:Nat}(b:idxOf tr x.t=some j):(j,lu (.cst undef) x.pc x.e) ∈ gF tr a:=by grind[gF]
theorem jX(m:Nd tr){st:CS}(l:Inv tr ops st S H T){vs:List<|Nat×Value}(h:evSets S H (gF tr st.env)=some vs){j t:Nat}(f:tr[j]?=some t):(setAll S vs)[j]?=some (T t):=by
 have⟨s,u⟩:=nK h;have y:j<S.length:=by rw[l.len];exact(List.getElem?_eq_some_iff.1 f).1
 refine su vs S y (λq A e=>?_) ?_
 .have⟨B,w,o⟩:=u q A
  obtain⟨x,p,d,rfl⟩:=zq w;have g:x.t=t:=by
   have:=dB d;rw[e,f]at this;simpa using this.symm
  have⟨a,b⟩:=ma o;have c:=l.ents x p;by_cases i:ax S H x.pc
  .have:=c.1 i;rw[a i]at this;simp at this;rw[this,g]
  .have:=b i;simp[ev1,ev]at this;rw[<-this,<-g];exact(c.2 i).symm
 .cases r:xz st.env t with
  | false=>exact .inr<|l.slots j t f r
  | true=>
   left;have⟨x,p,e⟩:=lQ.1 r;cases d:idxOf tr x.t with
   | none=>exact absurd f (by rw[<-e];exact nO d)
   | some k=>
    have z:k=j:=m k j t (by rw[<-e];exact dB d) f;have⟨v,_,o⟩:=s _<|nS p d;exact⟨_,o,z⟩
theorem uH{st:CS}(c:SInv tr ops st){vs:List<|Nat×Value}(h:evSets S H (gF tr st.env)=some vs){x:Obl}(f:x ∈ st.obl)(d:(idxOf tr x.t).isSome=true)(m:ax S H x.pc):(ev S H x.e).isSome=true:=by
 have⟨y,g,b,i,k,l⟩:=c.obls x f;have⟨j,a⟩:=Option.isSome_iff_exists.1 d;rw[<-b]at a;have⟨v,e,_⟩:=(nK h).1 _<|nS g a;have:=(ma e).1 (by simp_all)
 simp_all[eb]
theorem vM{a:List Obl}(h:evChk S H (Ce a)=true){x:Obl}(c:x ∈ a)(b:ax S H x.pc):(ev S H x.e).isSome=true:=
 tK (uC h _<|List.mem_map.2 ⟨x,c,rfl⟩) b
def dY:Stm->Bool
 | .sets _ _ | .hv .. | .dist _ _=>true
 | _=>false
def cF(callA:CallR)(lo n:Nat):List Stm->List Value->Heap->Option (List Value×Heap)
 | [],S,H=>some (S,H)
 | s::r,S,H=>match exec callA lo n s S H with
  | some (.normal,S',H')=>cF callA lo n r S' H'
  | _=>none
theorem kU(z:Nd tr){raised:Bool}{st q:CS}{o:Oper}{h:HOp}{xs:List Operand}(f:pH P tr ops raised st o=some q)(Y:resolve P o.op=(.h h,xs)) :
  ∃s,q.out=s::st.out/\q.env=[]/\q.obl=[]/\dY s=true /\
   (SInv tr ops st->∀S H r,exec callA lo n s S H=some r->du S H st.obl) /\
   (∀S H T w H',Inv tr ops st S H T->exec callA lo n s S H=some (.normal,w,H')->∃X,bV P callA.ret lo ops raised o T H=some (X,H')/\Inv tr ops q w H' X) /\
   ∀S H T j w H',Inv tr ops st S H T->exec callA lo n s S H=some (.exit j,w,H')->∃p I,w=p::I/\j=cE/\I.length=tr.length/\(∀(j t:Nat),tr[j]?=some t->I[j]?=some (T t))/\bR ops T o=true/\cz callA lo (cG raised h) (xs.map<|ay T) H=some (p,H'):=by
 unfold pH at f;rw[Y]at f;cases b:cD ops tr st.env o.guard with
 | none=>rw[b]at f;simp at f
 | some W=>
 rw[b]at f;simp only at f;split at f
 next K i=>
  split at f
  next G=>
   simp only[ab₀]at f;subst f;refine⟨_,rfl,rfl,rfl,rfl,λc S H r a=>?_,λS H T w H' c a=>?_,λS H T j w H' c a=>?_⟩
   .intro x B N
    simp only[exec]at a;split at a
    next vs l=>
     split at a
     next F=>
      by_cases C:(idxOf tr x.t).isSome=true
      .exact uH c l B C N
      .have U:x ∈ st.obl.filter λx=>!(idxOf tr x.t).isSome:=List.mem_filter.2 ⟨B,by simpa using C⟩
       rcases ko o.guard (xs.filterMap bz) U with L|⟨L,h2⟩
       .exact vM F L N
       .refine ux c b i (λu=>?_) B L h2 N
        rw[show holds S H W=some true from u]at a;simp only at a;split at a
        next ys V=>simp[V]
        .simp at a
     .simp at a
    .simp at a
   .simp[exec]at a
    split at a
    next vs l=>
     split at a
     .
      have m:∀(v:Value) (J:List Value),J=(match o.dst.bind (idxOf tr)with|some d=>(setAll S vs).set d v|none=>setAll S vs)->Inv tr ops { out:=(Stm.hv (gF tr st.env) (Ce<|rest (st.obl.filter λx=>!(idxOf tr x.t).isSome) o.guard<|xs.filterMap bz) W (o.dst.bind<|idxOf tr) (cG raised h)<|jT K)::st.out,env:=[],obl:=[] } J H' (eV T o.dst v):=by
       intro v J D;refine⟨⟨by simp,by simp,by simp⟩,?_,?_,by simp⟩
       .rw[D];split<;>simp[jM,c.len]
       .intro j t A _
        have O:j<(setAll S vs).length:=by rw[jM,c.len];exact(List.getElem?_eq_some_iff.1 A).1
        have M:=jX z c l A;rw[D];cases hd:o.dst with
        | none=>simp[eV,M]
        | some d=>
         simp[ao₀];cases C:idxOf tr d with
         | none=>
          have:t≠d:=λe=>nO C (by rw[<-e];exact A);simp[eV,this,M]
         | some k=>
          simp only;by_cases y:k=j
          .subst y
           have:=dB C;rw[A]at this;simp at this;subst this;simp[eV,O]
          .have:t≠d:=by
            intro e;subst e;exact y<|z k j _ (dB C) A
           rw[List.getElem?_set_ne y,M];simp[eV,this]
      split at a
      next u=>
       have g:∀x ∈ K,ax S H x.pc:=λx a=>sN (List.all_eq_true.1 G x a) b (oX c.toSInv i x a) u;rw[qm c i g]at a;simp only at a;split at a
       next v Z hsem=>
        simp[ab₀,ad₀,true_and]at a;obtain⟨rfl,rfl⟩:=a;refine⟨eV T o.dst v,?_,m v _ rfl⟩;have R:=(jC c b).2 u;simp[bV,R,if_true,Y,hsem]
       .split at a
        .simp at a
        .simp at a
      next u=>
       simp[ab₀,ad₀,true_and]at a;obtain⟨rfl,rfl⟩:=a;have Q:¬ ax S H W:=by unfold ax;rw[u];simp
       have R:bR ops T o=false:=by
        cases hb:bR ops T o with
        | false=>rfl
        | true=>exact absurd ((jC c b).1 hb) Q
       exact⟨eV T o.dst undef,by simp[bV,R],m undef _ rfl⟩
      .simp at a
     .simp at a
    .simp at a
   .simp[exec]at a
    split at a
    next vs l=>
     split at a
     .split at a
      next u=>
       have g:∀x ∈ K,ax S H x.pc:=λx a=>sN (List.all_eq_true.1 G x a) b (oX c.toSInv i x a) u;rw[qm c i g]at a;simp only at a;split at a
       .simp at a
       .split at a
        next v Z hsem=>
         simp[ab₀,ad₀]at a;obtain⟨O,rfl,rfl⟩:=a;cases O;refine⟨v,_,rfl,rfl,by rw[jM];exact c.len,λj t A=>jX z c l A,(jC c b).2 u,hsem⟩
        .simp at a
      .simp at a
      .simp at a
     .simp at a
    .simp at a
  .simp at f
 .simp at f
def cU(callA:CallR)(lo n:Nat):List Stm->List Value->Heap->Option (Value×List Value×Heap)
 | [],_,_=>none
 | s::r,S,H=>match exec callA lo n s S H with
  | some (.normal,S',H')=>cU callA lo n r S' H'
  | some (.exit j,p::S',H')=>if j=cE then some (p,S',H') else none
  | _=>none
theorem gQ(r:Nd tr){raised:Nat->Bool}:∀(l:List Nat) (st c:CS),dh P tr ops raised l st=some c->∃R,c.out=R++st.out/\(∀s ∈ R,dY s=true) /\
  (SInv tr ops st->SInv tr ops c) /\
  (SInv tr ops st->∀S H (d:List Value->Heap->Prop),(∀k j,d k j->du k j c.obl)->(∃k j,cF callA lo n R.reverse S H=some (k,j)/\d k j)->du S H st.obl) /\
  ∀S H T g H',Inv tr ops st S H T->cF callA lo n R.reverse S H=some (g,H')->du g H' c.obl->∃x,bZ P callA.ret lo ops raised l T H=some (x,H')/\Inv tr ops c g H' x
 | [],st,c,h=>by
  simp[dh]at h;subst h;refine⟨[],rfl,by simp,id,λ_ S H d u ⟨k,j,f,q⟩=>?_,λS H T g H' e f _=>?_⟩
  .grind[cF]
  .obtain⟨rfl,rfl⟩:=f;exact⟨T,rfl,e⟩
 | i::l,st,c,h=>by
  simp[dh]at h;split at h
  next o U=>
   split at h
   next p C=>
    have⟨R,G,I,y,z,K⟩:=gQ r l p c h;cases F:resolve P o.op with
    | mk w xs=>
    cases w with
    | l J=>
     have⟨A,m,B⟩:=oD (callA:=callA.ret) (lo:=lo) C F;refine⟨R,by rw[G,A],I,λe=>y (m e).1,λe S H d u f=>(m e).2 S H<|z (m e).1 S H d u f,λS H T g H' e f v=>?_⟩;have D:du S H p.obl:=z (m e.toSInv).1 S H (λa b=>a=g/\b=H') (λa b ⟨O,Q⟩=>by simp_all) ⟨g,H',f,rfl,rfl⟩
     grind[bZ]
    | h hop=>
     have⟨s,A,m,B,L,M,N,_⟩:=kU (callA:=callA) (lo:=lo) (n:=n) r C F;have t:SInv tr ops p:=⟨by rw[m];simp,by rw[m];simp,by rw[B];simp⟩;refine⟨R++[s],by simp_all,?_,λ_=>y t,λe S H d u ⟨k,j,f,q⟩=>?_,λS H T g H' e f v=>?_⟩
     .grind
     .grind[cF]
     .simp[List.reverse_append,List.reverse_cons,List.reverse_nil,List.nil_append,List.singleton_append,cF]at f
      grind[bZ]
   .simp at h
  .simp at h
def Mk(P:Program)(callA:CallR)(lo:Nat)(ops:List Oper)(raised:Nat->Bool)(l:List Nat)(T:Raw)(H:Heap)(p:Value)(T1:Raw)(H':Heap):Prop:=
 ∃l1 i l2 H1 o h xs,l=l1++i::l2/\bZ P callA.ret lo ops raised l1 T H=some (T1,H1)/\ops[i]?=some o/\bR ops T1 o=true/\resolve P o.op=(.h h,xs)/\cz callA lo (cG (raised i) h) (xs.map<|ay T1) H1=some (p,H')
theorem qD(k:Nd tr){raised:Nat->Bool}:∀(l:List Nat) (st b:CS),dh P tr ops raised l st=some b->∃R,b.out=R++st.out /\
  (SInv tr ops st->∀S H r,cU callA lo n R.reverse S H=some r->du S H st.obl) /\
  ∀S H T p d H',Inv tr ops st S H T->cU callA lo n R.reverse S H=some (p,d,H')->∃g,d.length=tr.length/\(∀(j t:Nat),tr[j]?=some t->d[j]?=some (g t))/\Mk P callA lo ops raised l T H p g H'
 | [],st,b,h=>by
  simp_all[dh,cU]
 | i::l,st,b,h=>by
  simp[dh]at h;split at h
  next o ho=>
   split at h
   next q V=>
    have⟨R,W,N,O⟩:=qD k l q b h;cases D:resolve P o.op with
    | mk M xs=>
    cases M with
    | l b0=>
     have⟨Q,v,U⟩:=oD (callA:=callA.ret) (lo:=lo) V D;refine⟨R,by rw[W,Q],λc S H r a=>(v c).2 S H<|N (v c).1 S H r a,λS H T p d H' c a=>?_⟩;have m:du S H q.obl:=N (v c.toSInv).1 S H _ a;have⟨g,Z,z⟩:=U S H T c m;have⟨y,A,B,I,G,J,w,o',C,f,K,q2,L⟩:=O S H g p d H' z a;exact⟨y,A,B,i::I,G,J,w,o',C,f,by rw[K];rfl,by grind[bZ],L⟩
    | h hop=>
     have⟨s,Q,v,U,f4,f5,X,Y⟩:=kU (callA:=callA) (lo:=lo) (n:=n) k V D;refine⟨R++[s],by simp_all,λc S H r a=>?_,λS H T p d H' c a=>?_⟩
     .grind[cU]
     .simp[List.reverse_append,List.reverse_cons,List.reverse_nil,List.nil_append,List.singleton_append,cU]at a
      split at a
      next x u F=>
       have⟨g,Z,z⟩:=X S H T x u c F;have⟨y,A,B,I,G,J,w,o',C,f,K,q2,L⟩:=O x u g p d H' z a;exact⟨y,A,B,i::I,G,J,w,o',C,f,by rw[K];rfl,by grind[bZ],L⟩
      next j p' x u F=>
       have⟨p2,S3,e,hj,k1,k2,k3,k4⟩:=Y S H T j _ u c F;rw[if_pos hj]at a;simp[ab₀]at a;obtain⟨rfl,rfl,rfl⟩:=a;simp at e;obtain⟨rfl,rfl⟩:=e;exact⟨T,k1,k2,[],i,l,H,o,hop,xs,rfl,rfl,ho,k3,D,k4⟩
      .simp at a
   .simp at h
  .simp at h
end
section
variable {P:Program}{callA:CallR}{lo n:Nat}{tr:List Nat}{S:List Value}{H:Heap}{T:Raw}
theorem km{s:Stm}(h:dY s=true){c:List Value}{H':Heap}{b:Ex}(a:exec callA lo n s S H=some (b,c,H')):b=.normal\/(b=.exit cE/\∃p d,c=p::d):=by
 cases s<;>simp[dY]at h
 .simp[exec]at a
  repeat' (split at a)
  all_goals (first|(simp at a;done)|(simp at a;exact .inl a.1.symm))
 .simp[exec]at a
  repeat' (split at a)
  all_goals (first|(simp at a;done)|(simp at a;exact .inl a.1.symm)|(simp at a;exact .inr ⟨a.1.symm,_,_,a.2.1.symm⟩))
 .simp[exec]at a
  repeat' (split at a)
  all_goals (first|(simp at a;done)|(simp at a;exact .inl a.1.symm))
theorem qG:∀{l:List Stm},(∀s ∈ l,dY s=true)->∀{S a:List Value} {H H':Heap} {b:Ex},exec callA lo n (eD l) S H=some (b,a,H') ->
  (b=.normal/\cF callA lo n l S H=some (a,H'))\/(b=.exit cE/\∃p c,a=p::c/\cU callA lo n l S H=some (p,c,H'))
 | [],_,S,a,H,H',b,h=>by obtain⟨rfl,rfl,rfl⟩:=h;exact .inl ⟨rfl,rfl⟩
 | [s],d,S,a,H,H',b,h=>by
  simp[eD]at h;rcases km (d s (by simp)) h with rfl|⟨rfl,p,c,rfl⟩
  all_goals grind[cF,cU]
 | s::t::r,d,S,a,H,H',b,h=>by
  simp[eD,exec]at h;split at h
  .rcases qG (l:=t::r) (λx j=>d x (by simp_all)) h with ⟨e,f⟩|⟨e,p,g,f,i⟩
   all_goals grind[cF,cU]
  .rcases km (d s (by simp)) h with rfl|⟨rfl,p,c,rfl⟩
   all_goals grind[cU]
theorem lA{c:Stm}:∀{l:List Stm},(∀s ∈ l,dY s=true)->∀{S b:List Value} {H H':Heap} {d:Ex},exec callA lo n (eD<|l++[c]) S H=some (d,b,H') ->
  (∃a f,cF callA lo n l S H=some (a,f)/\exec callA lo n c a f=some (d,b,H'))\/(d=.exit cE/\∃p a,b=p::a/\cU callA lo n l S H=some (p,a,H'))
 | [],_,S,b,H,H',d,h=>.inl ⟨S,H,rfl,h⟩
 | [s],e,S,b,H,H',d,h=>by
  simp[am₀,List.nil_append,eD,exec]at h;split at h
  .grind[cF]
  .rcases km (e s (by simp)) h with rfl|⟨rfl,p,a,rfl⟩
   all_goals grind[cU]
 | s::t::r,e,S,b,H,H',d,h=>by
  simp only[am₀,eD,exec]at h;split at h
  .rcases lA (l:=t::r) (λx u=>e x (by simp_all)) (by simpa using h)with ⟨g,i,j,k⟩|⟨m,p,g,o,q⟩
   all_goals grind[cF,cU]
  .rcases km (e s (by simp)) h with rfl|⟨rfl,p,a,rfl⟩
   all_goals grind[cU]
theorem AB{a:dq}{vs:List Value}{r:Value×Heap}(h:hsem a lo .callC vs H=some r):hsem a lo (.call false) vs H=some r:=by
 unfold hsem at h;split at h
 all_goals first
  | (rename_i e;cases e;simp only[hsem];exact h)
  | (rename_i e;exact HOp.noConfusion e)
  | (cases h)
theorem zO{s:Stm}(h:dY s=true):dY (jn s)=true:=by unfold jn;split<;>first|rfl|exact h
theorem Cc{s:Stm}{b:List Value}{H':Heap}(a:exec callA lo n (jn s) S H=some (.normal,b,H')):exec callA lo n s S H=some (.normal,b,H'):=by
 unfold jn at a;split at a
 .simp[exec]at a ⊢
  split at a
  all_goals grind[AB,cz]
 all_goals grind[exec,hsem,cz]
theorem EZ{s:Stm}(f:dY s=true){c:Ex}{d:List Value}{H':Heap}(b:exec callA lo n (jn s) S H=some (c,d,H')):c=.normal:=by
 cases s<;>simp[dY]at f
 .simp[jn,exec]at b
  repeat' (split at b)
  all_goals (first|(simp at b;done)|(simp at b;exact b.1.symm))
 next l e g dst o a=>
  cases o<;>simp[jn,exec]at b
  case call r=>
   cases r<;>simp[jn,exec]at b
   all_goals (repeat' (split at b))
   all_goals (first|(simp at b;done)|(simp at b;exact b.1.symm)|(simp_all [cz];done))
  all_goals (repeat' (split at b))
  all_goals (first|(simp at b;done)|(simp at b;exact b.1.symm)|(simp_all [cz];done))
 .simp[jn,exec]at b
  repeat' (split at b)
  all_goals (first|(simp at b;done)|(simp at b;exact b.1.symm))
theorem kQ:∀{l:List Stm} {S a:List Value} {H H':Heap},cF callA lo n (l.map jn) S H=some (a,H')->cF callA lo n l S H=some (a,H')
 | [],_,_,_,_,h=>h
 | s::r,S,a,H,H',h=>by
  simp[ag₀,cF]at h;split at h
  next d c b=>
   simp[cF,Cc b];exact kQ h
  .simp at h
theorem nF:∀{l:List Stm},(∀s ∈ l,dY s=true)->∀{S:List Value} {H:Heap},cU callA lo n (l.map jn) S H=none
 | [],_,_,_=>rfl
 | s::r,a,S,H=>by
  simp[ag₀,cU];split
  .exact nF (λx c=>a x (by simp[c]))
  next j p e d b=>
   have:=EZ (a s (by simp)) b;cases this
  .rfl
theorem qB{ops:List Oper}{draw:Bool}{st:CS}:(cX P ops draw st).env=st.env/\(cX P ops draw st).obl=st.obl:=by unfold cX;split<;>exact⟨rfl,rfl⟩
theorem jb{ops:List Oper}{draw:Bool}{st:CS}(h:∀s ∈ st.out,dY s=true):∀s ∈ (cX P ops draw st).out,dY s=true:=by grind[cX,zO]
theorem mq{l m:List Stm}{S c b:List Value}{H a H':Heap}:cF callA lo n l S H=some (c,a)->cF callA lo n m c a=some (b,H')->cF callA lo n (l++m) S H=some (b,H'):=by
 induction l generalizing S H with
 | nil=>grind[cF]
 | cons s r d=>
  grind[cF]
theorem iS:∀{l m:List Stm},(∀S H,cU callA lo n m S H=none)->∀{S:List Value} {H:Heap} {r:Value×List Value×Heap},cU callA lo n (l++m) S H=some r->cU callA lo n l S H=some r
 | [],m,a,S,H,r,h=>by rw[List.nil_append,a]at h;cases h
 | s::l,m,a,S,H,r,h=>by
  simp[am₀,cU]at h ⊢;split at h
  next c b d=>
   exact iS a h
  .exact h
  .simp at h
theorem sv{l:List<|Nat×E}{a:List E}(S:List Value)(H:Heap):cU callA lo n [.sets l a] S H=none:=by grind[cU,exec]
theorem dv:∀{l m:List Stm} {S a:List Value} {H H':Heap},cF callA lo n (l++m) S H=some (a,H')->∃c b,cF callA lo n l S H=some (c,b)/\cF callA lo n m c b=some (a,H')
 | [],m,S,a,H,H',h=>⟨S,H,rfl,h⟩
 | s::r,m,S,a,H,H',h=>by
  simp[am₀,cF]at h;split at h
  .have⟨e,d,f,g⟩:=dv h
   grind[cF]
  .simp at h
theorem ja{ops:List Oper}{draw:Bool}{st:CS}{m:List Stm}{c:List Value}{H':Heap}(h:cF callA lo n ((cX P ops draw st).out.reverse++m) S H=some (c,H')):cF callA lo n (st.out.reverse++m) S H=some (c,H'):=by
 have⟨j,g,a,f⟩:=dv h;refine mq ?_ f;unfold cX at a;split at a
 .cases e:st.out with
  | nil=>rw[e]at a;exact a
  | cons x r=>
   rw[e]at a;simp[List.reverse_cons]at a ⊢;have⟨k,i,d,b⟩:=dv a;rw[<-List.map_reverse]at d;apply mq (kQ d);split at b
   .exact b
   .exact kQ (l:=[x]) b
 .exact a
theorem re:∀{l m:List Stm} {S:List Value} {H:Heap} {r:Value×List Value×Heap},cU callA lo n (l++m) S H=some r->(cU callA lo n l S H=some r)\/(∃b a,cF callA lo n l S H=some (b,a)/\cU callA lo n m b a=some r)
 | [],m,S,H,r,h=>.inr ⟨S,H,rfl,h⟩
 | s::l,m,S,H,r,h=>by
  simp[am₀,cU]at h;split at h
  .rcases re h with h|⟨d,c,e,f⟩
   all_goals grind[cU,cF]
  all_goals grind[cU]
theorem gY{ops:List Oper}{draw:Bool}{st:CS}{m:List Stm}(d:∀s ∈ st.out,dY s=true)(j:∀S H,cU callA lo n m S H=none){p:Value}{c:List Value}{H':Heap}(h:cU callA lo n ((cX P ops draw st).out.reverse++m) S H=some (p,c,H')) :
  (draw=false/\cU callA lo n st.out.reverse S H=some (p,c,H'))\/(draw=true/\pQ P ops=true/\∃x r b a,st.out=x::r/\cF callA lo n r.reverse S H=some (b,a)/\exec callA lo n x b a=some (.exit cE,p::c,H')):=by
 replace h:=iS j h;unfold cX at h;split at h
 next g=>
  subst g;right;refine⟨rfl,?_⟩;cases k:st.out with
  | nil=>grind[cU]
  | cons x r=>
   rw[k]at h d;simp at h;rw[<-List.map_reverse]at h;rcases re h with h|⟨b,a,e,f⟩
   .grind[nF]
   .split at f
    next i=>
     refine⟨i,x,r,b,a,rfl,kQ e,?_⟩
     grind[cU]
    .have:=nF (callA:=callA) (lo:=lo) (n:=n) (l:=[x]) (λs o=>d s (by simp_all)) (S:=b) (H:=a)
     simp_all
 simp_all
theorem k7{ops:List Oper}{draw:Bool}{st:CS}:∃m,flush tr st=st.out.reverse++m/\flush tr (cX P ops draw st)=(cX P ops draw st).out.reverse++m/\(m=[]\/∃a b,m=[.sets a b]):=by
 unfold flush;rw[(qB (P:=P) (ops:=ops) (draw:=draw) (st:=st)).1,(qB (P:=P) (ops:=ops) (draw:=draw) (st:=st)).2];simp only;split
 .exact⟨[],by simp,by simp,.inl rfl⟩
 .exact⟨_,rfl,rfl,.inr ⟨_,_,rfl⟩⟩
theorem qH{ops:List Oper}{draw:Bool}{st:CS}{a:List Value}{H':Heap}(h:cF callA lo n (flush tr<|cX P ops draw st) S H=some (a,H')):cF callA lo n (flush tr st) S H=some (a,H'):=by
 have⟨m,b,c,_⟩:=k7 (P:=P) (tr:=tr) (ops:=ops) (draw:=draw) (st:=st)
 grind[ja]
theorem Bo{m:List Stm}(h:m=[]\/∃a b,m=[.sets a b])(S:List Value)(H:Heap):cU callA lo n m S H=none:=by
 rcases h with rfl|⟨a,b,rfl⟩
 .rfl
 grind[sv]
def dE(tr:List Nat)(S:List Value)(T:Raw):Prop:=S.length=tr.length/\∀(j t:Nat),tr[j]?=some t->S[j]?=some (T t)
theorem mX{ops:List Oper}(h:dE tr S T):Inv tr ops cZ S H T:=
 ⟨⟨by simp[cZ],by simp[cZ],by simp[cZ]⟩,h.1,λj t a _=>h.2 j t a,by simp[cZ]⟩
theorem Inv.done{ops:List Oper}{st:CS}(b:Inv tr ops st S H T)(e:(gF tr st.env).isEmpty=true)(a:Nd tr):dE tr S T:=by
 refine⟨b.len,λj t d=>?_⟩;have c:gF tr st.env=[]:=by simp_all
 have:=jX a b (vs:=[]) (by rw[c];rfl) d
 assumption
def nG(P:Program)(ops:List Oper)(draw:Bool)(T:Raw):Prop:=
 ∀q ∈ fZ P ops draw,∃x y,cN P ops q.1=some x/\cN P ops q.2=some y/\(ae (ay T x)=none\/ae (ay T x)≠ae (ay T y))
theorem mP{o:Operand}{x:Ent}(a:dE tr S T)(h:opE tr [] o=some x):ev1 S H x.e=some (ay T o):=
 (pU (ops:=[]) (st:=cZ) (mX a) (by assumption)).1 (by
  cases o<;>simp[opE]at h
  .simp[jF]at h;grind[fS]
  all_goals grind[fS])
theorem im(o:dE tr S T)(ops:List Oper):∀(k:List<|Nat×Nat) (d l:List Stm),k.foldlM (init:=d) (λd q=>
   match cN P ops q.1,cN P ops q.2 with
   | some x,some y=>match opE tr [] x,opE tr [] y with
    | some a,some c=>some<|d++[Stm.dist a.e c.e]
    | _,_=>none
   | _,_=>none)=some l->∃m,l=d++m/\(∀s ∈ m,dY s=true)/\∀i H',cF callA lo n m S H=some (i,H')->i=S/\H'=H/\∀q ∈ k,∃x y,cN P ops q.1=some x/\cN P ops q.2=some y/\(ae (ay T x)=none\/ae (ay T x)≠ae (ay T y))
 | [],d,l,h=>by
  simp at h;subst h;exact⟨[],by simp,by simp,λi H' j=>by simp[cF]at j;exact⟨j.1.symm,j.2.symm,by simp⟩⟩
 | q::k,d,l,h=>by
  simp[List.foldlM_cons,Option.bind_eq_bind,ae₀]at h;have⟨r,g,B⟩:=h;split at g<;>try (simp at g;done)
  rename_i x y j F;split at g<;>try (simp at g;done)
  rename_i a c C D;simp at g;subst g;have⟨m,t,u,v⟩:=im o ops k _ l B;refine⟨.dist a.e c.e::m,by rw[t];simp,?_,λi H' b=>?_⟩
  .intro s e
   cases e with
   | head=>rfl
   | tail _ e=>exact u s e
  .simp[cF,exec,mP (H:=H) o C,mP (H:=H) o D]at b
   split at b
   next J I e=>
    split at e
    next f=>
     simp at e;obtain⟨rfl,rfl⟩:=e;have⟨w,z,A⟩:=v i H' b;refine⟨w,z,λG p=>?_⟩;cases p with
     | head=>exact⟨x,y,j,F,f⟩
     | tail _ p=>exact A G p
    .simp at e
   .simp at b
theorem nH:∀(c:List Stm),(∀s ∈ c,∃a b,s=.dist a b)->∀(S:List Value) (H:Heap),cU callA lo n c S H=none
 | [],_,_,_=>rfl
 | s::r,h,S,H=>by
  obtain⟨a,b,rfl⟩:=h s (by simp);simp[cU];split
  .exact nH r (λx d=>h x (by simp[d])) _ _
  all_goals grind[exec]
theorem rP(ops:List Oper):∀(e:List<|Nat×Nat) (d l:List Stm),e.foldlM (init:=d) (λd q=>
   match cN P ops q.1,cN P ops q.2 with
   | some x,some y=>match opE tr [] x,opE tr [] y with
    | some a,some c=>some<|d++[Stm.dist a.e c.e]
    | _,_=>none
   | _,_=>none)=some l->(∀s ∈ d,∃a b,s=Stm.dist a b)->∀s ∈ l,∃a b,s=Stm.dist a b
 | [],d,l,h,i=>by simp_all
 | q::e,d,l,h,i=>by
  simp[List.foldlM_cons,Option.bind_eq_bind,ae₀]at h;have⟨f,j,g⟩:=h;refine rP ops e _ l g λs k=>?_
  grind
theorem xm(e:Nd tr){ops:List Oper}{st:CS}{raised:Nat->Bool}{l:List Nat}(h:dh P tr ops raised l cZ=some st)(I:dE tr S T){s:List Value}{H':Heap}
  (r:cF callA lo n (flush tr st) S H=some (s,H')):∃g,bZ P callA.ret lo ops raised l T H=some (g,H')/\dE tr s g:=by
 have⟨R,F,V,B,W,C⟩:=gQ (callA:=callA) (lo:=lo) (n:=n) e l cZ st h;have p:st.out=R:=by rw[F];simp[cZ]
 have d:=mX (ops:=ops) (H:=H) I;unfold flush at r;simp only[p]at r;split at r
 next a=>
  simp only[ac₀]at a;have b:du s H' st.obl:=by
   intro x c w;have f:=B d.toSInv;have⟨y,N,O,X,Y,Z⟩:=f.obls x c;by_cases o:(idxOf tr x.t).isSome=true
   .have⟨j,L⟩:=Option.isSome_iff_exists.1 o
    have:=nS (tr:=tr) N (by rw[O];exact L);have K:gF tr st.env=[]:=by simpa using a.1
    rw[K]at this;simp at this
   .have D:x ∈ st.obl.filter λx=>!(idxOf tr x.t).isSome:=List.mem_filter.2 ⟨c,by simpa using o⟩
    have J:(st.obl.filter λx=>!(idxOf tr x.t).isSome)=[]:=by simpa[Ce]using a.2
    rw[J]at D;simp at D
  have⟨g,v,u⟩:=C S H T s H' d r b;exact⟨g,v,u.done a.1 e⟩
 .have⟨A,z,G,k⟩:=dv r
  simp[cF,exec]at k;split at k
  next U Q i=>
   split at i
   next vs q=>
    split at i
    next m=>
     simp at i k;obtain⟨rfl,rfl⟩:=i;obtain⟨rfl,rfl⟩:=k;have f:=B d.toSInv;have b:du A z st.obl:=by
      intro x c w;by_cases o:(idxOf tr x.t).isSome=true
      .exact uH f q c o w
      .exact vM m (List.mem_filter.2 ⟨c,by simpa using o⟩) w
     have⟨g,v,u⟩:=C S H T A z d G b;exact⟨g,v,by rw[jM];exact u.len,λj t M=>jX e u q M⟩
    .simp at i
   .simp at i
  .simp at k
theorem oF{ops:List Oper}{raised:Nat->Bool}{i:Nat}:∀{l:List Nat} {st a:CS},dh P tr ops raised (l++[i]) st=some a->∃b o,dh P tr ops raised l st=some b/\ops[i]?=some o/\pH P tr ops (raised i) b o=some a
 | [],st,a,h=>by
  grind[dh]
 | j::l,st,a,h=>by
  simp[am₀,dh]at h;split at h
  .split at h
   .have⟨c,g,d,e,f⟩:=oF h
    grind[dh]
   .simp at h
  .simp at h
def C2(P:Program)(callA:CallR)(lo:Nat)(ops:List Oper)(draw:Bool)(T:Raw)(H:Heap)(p:Value)(T1:Raw)(H':Heap):Prop:=
 (draw=false/\Mk P callA lo ops (bT P ops draw) (dN P ops draw) T H p T1 H') \/
 (draw=true/\pQ P ops=true/\∃H1 o h xs,ops[ops.dropLast.length]?=some o/\bZ P callA.ret lo ops (bT P ops true) (dN P ops.dropLast true) T H=some (T1,H1)/\bR ops T1 o=true/\resolve P o.op=(.h h,xs) /\
  cz callA lo (cG (bT P ops true ops.dropLast.length) h) (xs.map<|ay T1) H1=some (p,H'))
theorem qo(i:Nd tr){ops:List Oper}{draw:Bool}{st:CS}(h:dh P tr ops (bT P ops draw) (dN P ops draw) cZ=some st)(N:dE tr S T){p:Value}{l:List Value}{H':Heap}
  (q:(draw=false/\cU callA lo n st.out.reverse S H=some (p,l,H'))\/(draw=true/\pQ P ops=true/\∃x r d c,st.out=x::r/\cF callA lo n r.reverse S H=some (d,c)/\exec callA lo n x d c=some (.exit cE,p::l,H'))) :
  ∃B,dE tr l B/\C2 P callA lo ops draw T H p B H':=by
 have f:=mX (ops:=ops) (H:=H) N;rcases q with ⟨rfl,q⟩|⟨rfl,G,x,r,d,c,O,D,F⟩
 .have⟨R,I,K,s⟩:=qD (callA:=callA) (lo:=lo) (n:=n) i _ cZ st h
  have b:st.out=R:=by grind[cZ]
  rw[b]at q;have⟨m,t,u,v⟩:=s S H T p l H' f q;exact⟨m,⟨t,u⟩,.inl ⟨rfl,v⟩⟩
 .have g:=G
  unfold pQ at g;simp only[ac₀,beq_iff_eq]at g;have⟨w,k,_⟩:=g;rw[k]at h;have⟨j,o,t,u,v⟩:=oF h;have a:∃z xs,resolve P o.op=(.h z,xs):=by
   grind[gk]
  have⟨z,xs,a⟩:=a;have⟨y,C,f2,f3,f4,L,f6,M⟩:=kU (callA:=callA) (lo:=lo) (n:=n) i v a;rw[O]at C;obtain⟨rfl,rfl⟩:=C;have⟨R,I,e2,J,K,s⟩:=gQ (callA:=callA) (lo:=lo) (n:=n) i _ cZ j t;have b:j.out=R:=by grind[cZ]
  rw[b]at D;have A:du d c j.obl:=L (J f.toSInv) d c _ F;have⟨m,Q,U⟩:=s S H T d c f D A;have⟨p2,Z,e,hj,V,W,X,Y⟩:=M d c m _ _ H' U F;obtain⟨rfl,rfl⟩:=e;exact⟨m,⟨V,W⟩,.inr ⟨rfl,G,c,o,z,xs,u,Q,X,a,Y⟩⟩
theorem jW(e:Nd tr){ops:List Oper}{draw:Bool}{st:CS}{raised:Nat->Bool}{l:List Nat}(h:dh P tr ops raised l cZ=some st):(∀s ∈ flush tr (cX P ops draw st),dY s=true)/\∀s ∈ st.out,dY s=true:=by
 have⟨R,g,i,_⟩:=gQ (callA:=(λ_ _ _ _=>none:CallR)) (lo:=0) (n:=0) e l cZ st h;have d:st.out=R:=by rw[g];simp[cZ]
 have f:∀s ∈ st.out,dY s=true:=by rw[d];exact i
 refine⟨λs c=>?_,f⟩;have⟨m,_,j,k⟩:=k7 (P:=P) (tr:=tr) (ops:=ops) (draw:=draw) (st:=st);rw[j]at c;rcases List.mem_append.1 c with c|c
 .exact jb f s (by simpa using c)
 .rcases k with rfl|⟨a,b,rfl⟩
  .simp at c
  .simp at c;rw[c];rfl
theorem kn(f:Nd tr){ops:List Oper}{draw:Bool}{l:List Stm}(h:fY P tr ops draw=some l)(t:dE tr S T){q:Ex}{o:List Value}{H':Heap}
  (J:exec callA lo n (eD l) S H=some (q,o,H')):(q=.normal/\(draw=true->fQ P ops=true) /\
   ∃b,bZ P callA.ret lo ops (bT P ops draw) (dN P ops draw) T H=some (b,H')/\dE tr o b/\nG P ops draw b) \/
   (q=.exit cE/\(draw=true->fQ P ops=true)/\∃p k b,o=p::k/\dE tr k b/\C2 P callA lo ops draw T H p b H'):=by
 unfold fY at h;split at h
 next st g a d=>
  simp at h;subst h;unfold dD at a;split at a
  .simp at a
  next u=>
   have w:=jW f a (draw:=draw);have⟨m,j,I,_⟩:=im (callA:=callA) (lo:=lo) (n:=n) (H:=H) t ops _ [] g d;simp at j;subst j;rcases qG (l:=flush tr (cX P ops draw st)++g) (λs K=>by
    grind) J with ⟨rfl,D⟩|⟨rfl,p,k,rfl,F⟩
   .have⟨k,y,z,A⟩:=dv D
    have⟨b,x,r⟩:=xm f a t<|qH z;have⟨L,c,_,v⟩:=im (callA:=callA) (lo:=lo) (n:=n) (H:=y) r ops _ [] g d;simp at c;subst c;obtain⟨rfl,rfl,G⟩:=v _ _ A;refine .inl ⟨rfl,λe=>?_,b,x,r,G⟩
    simp_all
   .have i:=iS (nH g<|rP ops _ [] g d (by simp)) F
    have⟨m,_,B,C⟩:=k7 (P:=P) (tr:=tr) (ops:=ops) (draw:=draw) (st:=st);rw[B]at i;have⟨b,x,r⟩:=qo f a t<|gY w.2 (Bo C) i
    grind
 .simp at h
theorem Ec(d:Nd tr){ops:List Oper}{draw:Bool}{c:Operand}{l:List Stm}{e:E}(h:gC P tr ops draw c=some (l,e))(L:dE tr S T){f:List Value}{H':Heap}
  (j:cF callA lo n l S H=some (f,H')) {v:Value} (hv:ev1 f H' e=some v):(draw=true->fQ P ops=true) /\
   ∃b,bZ P callA.ret lo ops (bT P ops draw) (dN P ops draw) T H=some (b,H')/\dE tr f b/\nG P ops draw b/\ay b c=v:=by
 unfold gC at h;have O:∀(st:CS) (D:List Stm) (x:Ent),dD P tr ops draw=some st->lL P tr ops draw=some D->opE tr [] c=some x->l=flush tr (cX P ops draw st)++D->e=x.e ->
   (draw=true->fQ P ops=true)/\∃b,bZ P callA.ret lo ops (bT P ops draw) (dN P ops draw) T H=some (b,H')/\dE tr f b/\nG P ops draw b/\ay b c=v:=by
  intro st D x a r hc G he;unfold dD at a;split at a
  .simp at a
  next q=>
   rw[G]at j;have⟨u,o,W,X⟩:=dv j;have⟨b,F,w⟩:=xm d a L<|qH W;have⟨m',i,_,s⟩:=im (callA:=callA) (lo:=lo) (n:=n) (H:=o) w ops _ [] D r;simp at i;subst i;obtain⟨rfl,rfl,Z⟩:=s _ _ X;refine⟨λe=>by simp_all,b,F,w,Z,?_⟩
   grind[mP]
 split at h
 next st a r=>
  split at h
  next g=>
   split at h
   next x p=>
    split at h
    next hg=>
     simp[ab₀,ad₀]at h;obtain⟨G,rfl⟩:=h;unfold dD at a;split at a
     .simp at a
     next q=>
      have⟨R,e1,e2,U,e4,V⟩:=gQ (callA:=callA) (lo:=lo) (n:=n) d _ cZ st a;have M:st.out=R:=by grind[cZ]
      have A:=mX (ops:=ops) (H:=H) L;have t:=U A.toSInv;have k:=pV t p;have K:x.g=none:=by simp_all
      rw[K]at k;simp[cD]at k;have C:cF callA lo n R.reverse S H=some (f,H')/\du f H' st.obl:=by
       have Q:∀(u:List Value) (o:Heap),ev1 u o x.e=some v->(∀y ∈ rest (st.obl.filter λx=>!(idxOf tr x.t).isSome) none ((bz c).toList),ax u o y.pc->(ev u o y.e).isSome=true)->du u o st.obl:=by
        intro u o b0 J y N hh;by_cases hi:(idxOf tr y.t).isSome=true
        .grind[Option.isSome_iff_exists,gF,SInv.obls]
        .have hm:y ∈ st.obl.filter λx=>!(idxOf tr x.t).isSome:=List.mem_filter.2 ⟨N,by simp_all⟩
         rcases ko none ((bz c).toList) hm with Y|⟨Y,h2⟩
         .simp_all
         .have⟨z,hz,z1,z2,z3,z4⟩:=t.obls y N
          have ht:bz c=some y.t:=by
           simp_all
          have I:=mQ p ht;rw[<-z1,mJ t hz]at I
          simp_all[eb]
       rw[<-G]at j;split at j
       next c0=>
        replace j:=ja (m:=[]) (by rw[List.append_nil];exact j)
        simp_all
       .replace j:=ja j
        grind[dv,cF,exec,evSets,setAll,vM]
      have⟨b,F,w⟩:=V S H T f H' A C.1 C.2;refine⟨λe=>by simp_all,b,F,w.done g d,?_,?_⟩
      .have⟨m,B,_,s⟩:=im (callA:=callA) (lo:=lo) (n:=n) (H:=H') (w.done g d) ops _ [] [] r
       simp at B;subst B;exact(s f H' rfl).2.2
      .have:=(pU w p).1 (by grind[fS])
       simp_all
    .simp at h
   .simp at h
  grind
 all_goals grind
theorem ze(i:Nd tr){ops:List Oper}{draw:Bool}{c:Operand}{l:List Stm}{e:E}(h:gC P tr ops draw c=some (l,e))(u:dE tr S T):∀s ∈ l,dY s=true:=by
 unfold gC at h;have d:∀(st:CS) (k:List Stm),dD P tr ops draw=some st->lL P tr ops draw=some k->l=flush tr (cX P ops draw st)++k->∀s ∈ l,dY s=true:=by
  intro st k a f o s b;unfold dD at a;split at a
  .simp at a
  .have⟨m,g,p,_⟩:=im (callA:=(λ_ _ _ _=>none:CallR)) (lo:=0) (n:=0) (H:=[]) u ops _ [] k f
   simp at g;subst g;rw[o]at b;rcases List.mem_append.1 b with b|b
   .exact(jW i a).1 s b
   .exact p s b
 split at h
 next st a f=>
  split at h
  .split at h
   .split at h
    .simp[ab₀,ad₀]at h
     obtain⟨o,rfl⟩:=h;unfold dD at a;split at a
     .simp at a
     .have⟨R,r,t,_⟩:=gQ (callA:=(λ_ _ _ _=>none:CallR)) (lo:=0) (n:=0) i _ cZ st a
      have j:st.out=R:=by rw[r];simp[cZ]
      intro s b;rw[<-o]at b;have q:∀s ∈ st.out,dY s=true:=by rw[j];exact t
      split at b
      .exact jb q s (by simpa using b)
      .rcases List.mem_append.1 b with b|b
       .exact jb q s (by simpa using b)
       .simp at b;rw[b];rfl
    .simp at h
   .simp at h
  .split at h
   .simp at h;obtain⟨rfl,rfl⟩:=h;exact d st [] a f (by simp)
   .simp at h
 .split at h
  .simp at h;obtain⟨rfl,rfl⟩:=h;exact d _ _ (by assumption) (by assumption) rfl
  .simp at h
 .simp at h
theorem Eb(b:Nd tr){ops:List Oper}{draw:Bool}{c:Operand}{l:List Stm}{e:E}(h:gC P tr ops draw c=some (l,e))(o:dE tr S T){p:Value}{k:List Value}{H':Heap}
  (d:cU callA lo n l S H=some (p,k,H')):(draw=true->fQ P ops=true)/\∃f,dE tr k f/\C2 P callA lo ops draw T H p f H':=by
 unfold gC at h;have s:∀(st:CS) (g:List Stm),dD P tr ops draw=some st->lL P tr ops draw=some g->l=flush tr (cX P ops draw st)++g->(draw=true->fQ P ops=true)/\∃f,dE tr k f/\C2 P callA lo ops draw T H p f H':=by
  intro st g a j q;unfold dD at a;split at a
  .simp at a
  .rw[q]at d
   have i:=iS (nH g<|rP ops _ [] g j (by simp)) d;have⟨m,_,t,u⟩:=k7 (P:=P) (tr:=tr) (ops:=ops) (draw:=draw) (st:=st);rw[t]at i;exact⟨λe=>by simp_all,qo b a o<|gY (jW b a (draw:=draw)).2 (Bo u) i⟩
 split at h
 next st a j=>
  split at h
  .split at h
   .split at h
    .simp at h
     obtain⟨q,rfl⟩:=h;unfold dD at a;split at a
     .simp at a
     .refine⟨λe=>by simp_all,?_⟩
      have r:=(jW b a (draw:=draw)).2;rw[<-q]at d;split at d
      .exact qo b a o<|gY (m:=[]) r (λ_ _=>rfl) (by rw[List.append_nil];exact d)
      .exact qo b a o<|gY r (λS H=>sv S H) d
    .simp at h
   .simp at h
  grind
 all_goals grind
end
end Go.Abs
