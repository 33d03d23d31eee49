/- Lemmas. -/
import Derived.Test.YtmnlgdpdgjbfgaaGreatF3
import Derived.Orders
import Derived.Scope
import Derived.Recover
set_option linter.all false
namespace Go.Abs
section
variable {ds:List Deferred}{P:Program}{callA:dq}{base G lo:Nat}{φ:Map}{H:Heap}{w:World}{T:Raw}{a:Act}{Q:Exit->Act->World->Prop}
structure Tmps (ds:List Deferred)(φ:Map)(nt:Nat)(T:Raw)(a:Act):Prop where
 size:a.tmps.size=nt
 rel:∀t,VRel φ (T t) (a.tmps.getD t undef)
 defers:a.defers=ds
theorem Tmps.mono{c:Map}{b:Nat}(h:φ.le c)(r:Tmps ds φ b T a):Tmps ds c b T a:=⟨r.size,λt=>(r.rel t).mono h,r.defers⟩
theorem Tmps.put{nt:Nat}(r:Tmps ds φ nt T a){dst:Option Nat}(hd:∀d,dst=some d->d<nt){v c:Value}(hv:VRel φ v c):Tmps ds φ nt (eV T dst v)<|a.put dst c:=by
 cases dst with
 | none=>assumption
 | some d=>
  refine⟨by grind[Act.put,size],λt=>?_,r.defers⟩;have hlt:d<a.tmps.size:=by grind[size]
  simp only[eV,Act.put];by_cases e:t=d
  .simp_all
  .have:=r.rel t
   simp ;have e2:(a.tmps.setIfInBounds d c).getD t undef=a.tmps.getD t undef:=by
    simp[at₀]
    grind
   simp_all
theorem Tmps.eval{e:Nat}(r:Tmps ds φ e T a)(c:∀g,g<G->∃n,φ g=some ⟨g,0,n⟩)(x:Operand)(b:match x with | .const v=>fX v=true | .global g=>g<G|_=>True):VRel φ (ay T x)<|a.eval x:=by
 cases x with
 | tmp t=>exact r.rel t
 | const v=>exact nV φ b
 | global g=>have⟨n,d⟩:=c g b;exact .ptr g 0 _ d
 | func f=>exact .func f #[] #[] #[] #[] rfl rfl (λj x y b=>by simp at b) (λj x y b=>by simp at b)
abbrev j2:=kj
theorem m9{ops:List Oper}{e:Nat}(r:Tmps ds φ e T a)(o:Oper):Region.wanted o (yielded ops.toArray a.tmps)=bR ops T o:=by
 unfold Region.wanted bR;cases h:o.guard with
 | none=>rfl
 | some q=>
  have⟨j,d⟩:=q;simp[yielded,aj₀];cases i:ops[j]? with
  | none=>rfl
  | some f=>
   simp ;cases g:f.dst with
   | none=>rfl
   | some t=>
    simp[ao₀,vJ];have:=r.rel t;rw[at₀]at this;cases b:a.tmps[t]? with
    | none=>
     rw[b]at this;generalize T t=v at this;cases this<;>rfl
    | some c=>
     rw[b]at this;generalize T t=v at this ⊢;cases this<;>simp
def fP(P:Program)(base G:Nat)(callA:dq):Prop:=
 ∀lo f args H v H',base<=lo->lo<=H.length->callA lo f args H=some (v,H') ->
  (∃ fn, P.funcs[f]? = some fn ∧ fn.body.isSome = true ∧ fn.name ≠ "runtime.NumGoroutine") ∧
  ∀φ w cargs,HRel φ base G H w->LRel φ args cargs->Calls P f cargs.toArray w fun e w'=>∃cv φ',e=.returned cv/\Eff φ base G lo H w φ' H' w'/\VRel φ' v cv
theorem Eff.weaken{f:Map}{d:Nat}{H':Heap}{w':World}(h:lo<=d)(e:Eff φ base G d H w f H' w'):Eff φ base G lo H w f H' w':=
 ⟨e.le,e.rel,e.keeps,e.size,λb m n=>e.keep b m λi c p g=>n i c p<|Nat.le_trans h g,
  λi p g o=>(e.fresh i p g o).imp id λ⟨j,c,q,k,l⟩=>⟨j,c,q,Nat.le_trans h k,l⟩,e.os,e.out⟩
theorem uF{k:Operand->Value}{dst:Option Tmp}{f:Operand}{args:Array Operand}{b:Array TypeId}{d:TypeId}{j:String}{c:Array Edge}{guard:Option (Nat×Bool)}{g:FuncId}{first cap:Array Value}{fn:Func}
  (l : k f = .func (.func g) first cap) (h : P.funcs[g]? = some fn) (m : fn.body.isSome = true) (n : fn.name ≠ "runtime.NumGoroutine") :
  (execOp k ⟨dst,.call ⟨.value f,args,b⟩,d,j,c,guard⟩).run P w=.ok (.enter g (first++args.map k++cap)) w:=by
 have e:fn.body.isNone=false:=by simp_all
 have i : (fn.name == "runtime.NumGoroutine") = false := by simp_all
 simp only[execOp,Go.resolve,Sem.run_bind,l,Deferred.ofValue,Sem.run_pure,Result.andThen_ok,invoke,callFunc,run_program,h];rw[if_neg (by simp[i]),if_neg (by simp[e])];rfl
theorem yQ{c:Op}{xs:List Operand}(b:bJ P c=some (.h .callC,xs)):False:=by
 cases c<;>simp[bJ]at b
 all_goals grind[Option.bind_eq_some_iff,Option.map_eq_some_iff]
theorem DR{b:Op}{xs:List Operand}(c:Abs.resolve P b=(.h .callC,xs)):False:=by
 unfold Abs.resolve at c;cases d:bJ P b with
 | none=>simp_all
 | some q=>grind[yQ]
theorem Bs(B:fP P base G callA)(U:base<=lo)(n0:lo<=H.length){raised:Bool}{o:Oper}(M:HRel φ base G H w)
  (n:∀x ∈ (resolve P o.op).2,VRel φ (ay T x)<|a.eval x) {v:Value} {H':Heap}
  (m:(match resolve P o.op with
   | (.l l,xs)=>(aJ l (xs.map<|ay T) H).map λv=>(v,H)
   | (.h h,xs)=>hsem callA lo (cG raised h) (xs.map<|ay T) H)=some (v,H'))
  {K:Act->World->Prop} (N:∀y k w',Eff φ base G lo H w k H' w'->VRel k v y->K (a.put o.dst y) w'):o.wp P a w K Q:=by
 unfold resolve at m n;cases d:bJ P o.op with
 | none=>rw[d]at m;simp[hsem,cG]at m
 | some q=>
 have⟨k0,xs⟩:=q;rw[d]at m n;simp[aq₀]at m n;have u:=n;cases k0 with
 | l l=>
  simp[aa₀,ad₀]at m;obtain⟨v',Z,rfl,rfl⟩:=m;have⟨y,R,S⟩:=oS d u M.crel Z;unfold Oper.wp;rw[R];exact N y φ w (Eff.refl M) S
 | h h=>
  by_cases hc:h.isCall=true
  .cases h<;>simp[HOp.isCall]at hc
   rotate_left
   .exact(yQ d).elim
   have⟨dst,op,l0,o0,O,guard⟩:=o;have r:∃f args i,op=.call ⟨.value f,args,i⟩/\xs=f::args.toList:=by
    cases op<;>simp[bJ]at d
    case call c=>
     have⟨s,args,i⟩:=c;cases s
     .simp at d;exact⟨_,_,_,rfl,d.2.symm⟩
     .simp at d
     next b=>
      cases b<;>simp only at d
      all_goals repeat' (first|(simp at d;done)|split at d|(simp[ae₀,aa₀]at d;have⟨_,_,d⟩:=d))
    case makeFunc fn first D=>cases fn<;>simp at d
    all_goals (repeat' (first|(simp at d;done)|split at d|(simp only[ae₀,aa₀]at d;have⟨_,_,d⟩:=d)))
   obtain⟨f,args,i,rfl,rfl⟩:=r;simp[cG,ag₀]at m;have W:=u f (by simp);have z:=LRel.map_left (ay T) a.eval args.toList (λx hx=>u x (by simp[hx]));generalize m0:ay T f=fv at m W;generalize X:a.eval f=fc at W;cases W<;>simp only[hsem]at m<;>try (simp at m;done)
   rename_i g first cap j p e0 g0 b0 c0
   have J:lo<=(if raised then H.length else lo):=by split<;>omega
   have L:(if raised then H.length else lo)<=H.length:=by split<;>omega
   have⟨⟨fn,Y,A,C⟩,t⟩:=B _ g _ H v H' byO L m;have Z:LRel φ (first.toList++args.toList.map (ay T)++cap.toList)<|j.toList++args.toList.map a.eval++p.toList:=
    ((LRel.arr.2 ⟨e0,b0⟩).append z).append<|LRel.arr.2 ⟨g0,c0⟩
   have V:=t φ w _ M Z;unfold Oper.wp;rw[uF X Y A C];rw[Oper.upon_enter];have ha:(j.toList++args.toList.map a.eval++p.toList).toArray=j++args.map a.eval++p:=by
    apply Array.toList_inj.1;simp
   rw[<-ha];refine V.mono λe w' ⟨y,k,he,I,hv⟩=>?_;subst he;exact N y k w' (I.weaken J) hv
  .have F:h.isCall=false:=by simpa using hc
   have h0:cG raised h=h:=by cases h<;>first|rfl|simp[HOp.isCall]at F
   simp[h0]at m;have⟨nx,y,w',k,R,S,h3,h4⟩:=F7 d F u M U m;unfold Oper.wp;rw[R];rcases S with rfl|⟨rfl,rfl⟩
   .exact N y k w' h3 h4
   .exact N undef k w' h3 h4
theorem GZ(b:fP P base G callA)(d:base<=lo)(e:lo<=H.length){raised:Bool}{o:Oper}{m:Nat}(j:Tmps ds φ m T a)(g:HRel φ base G H w)
  (hop:∀x ∈ (resolve P o.op).2,j2 G x=true) {v:Value} {H':Heap}
  (k:(match resolve P o.op with
   | (.l l,xs)=>(aJ l (xs.map<|ay T) H).map λv=>(v,H)
   | (.h h,xs)=>hsem callA lo (cG raised h) (xs.map<|ay T) H)=some (v,H'))
  {K:Act->World->Prop} (i:∀f c w',Eff φ base G lo H w c H' w'->VRel c v f->K (a.put o.dst f) w'):o.wp P a w K Q:=
 Bs b d e g (λx n=>j.eval g.glob x (by
  grind[kj])) k i
theorem ox(t:List Nat)(b:fP P base G callA)(j:base<=lo){ops:List Oper}{raised:Nat->Bool}{A:Nat}(e:∀o ∈ ops,(∀d,o.dst=some d->d<A)/\∀x ∈ (resolve P o.op).2,j2 G x=true) :
  ∀(l:List Nat) (φ:Map) (H:Heap) (w:World) (T:Raw) (a:Act),lo<=H.length->Tmps ds φ A T a->HRel φ base G H w->∀n H',bZ P callA lo ops raised l T H=some (n,H') ->
   (∀a' w' g,Tmps ds g A n a'->Eff φ base G lo H w g H' w'->wpOps P ops.toArray Q t a' w')->wpOps P ops.toArray Q (l++t) a w
 | [],φ,H,w,T,a,_,p,r,n,H',f,s=>by
  obtain⟨rfl,rfl⟩:=f;exact s a w φ p<|Eff.refl r
 | i::l,φ,H,w,T,a,k,p,r,n,H',f,s=>by
  simp[bZ]at f;split at f
  next o F=>
   split at f
   next I C m=>
    have⟨D,hop⟩:=e o<|List.mem_of_getElem? F;rw[am₀,wpOps_cons];unfold wpOp;simp[aj₀,F];rw[m9 p o];unfold bV at m;split at m
    next M=>
     rw[M];left;have z:∃v,(match resolve P o.op with
       | (.l l,xs)=>(aJ l (xs.map<|ay T) H).map λv=>(v,H)
       | (.h h,xs)=>hsem callA lo (cG (raised i) h) (xs.map<|ay T) H)=some (v,C)/\I=eV T o.dst v:=by
      grind
     obtain⟨v,L,rfl⟩:=z;refine GZ (raised:=raised i) b j k p r hop L λN g w' c u=>?_;exact ox t b j e l g C w' _ _ (Nat.le_trans k c.keeps.1) ((p.mono c.le).put D u) c.rel n H' f
      (λa' B q J K=>s a' B q J<|Eff.trans c K)
    .have y:bR ops T o=false:=by simp_all
     rw[y];simp ;obtain⟨rfl,rfl⟩:=m;exact ox t b j e l φ H w _ _ k (p.put D gX) r n H' f s
   .simp at f
  .simp at f
theorem PZ(b:fP P base G callA)(g:base<=lo){ops:List Oper}{raised:Nat->Bool}{i:Nat}(c:∀o ∈ ops,(∀d,o.dst=some d->d<i)/\∀x ∈ (resolve P o.op).2,j2 G x=true)
  (l:List Nat) (φ:Map) (H:Heap) (w:World) (T:Raw) (a:Act) (h:lo<=H.length) (m:Tmps ds φ i T a) (j:HRel φ base G H w) (f H') (n:bZ P callA lo ops raised l T H=some (f,H'))
  (k:∀a' w' e,Tmps ds e i f a'->Eff φ base G lo H w e H' w'->Q .normal a' w'):wpOps P ops.toArray Q l a w:=by
 have:=ox (Q:=Q) [] b g c l φ H w T a h m j f H' n k
 simp_all
def pe(cv:Value):PanicEntry:={ v:=cv,recovered:=false }
def qv(P:Program)(base G:Nat)(callA:dq):Prop:=
 ∀lo f args H v H',base<=lo->lo<=H.length->callA lo f args H=some (v,H') ->
  (∃ fn, P.funcs[f]? = some fn ∧ fn.body.isSome = true ∧ fn.name ≠ "runtime.NumGoroutine") ∧
  ∀φ w cargs,HRel φ base G H w->LRel φ args cargs->Calls P f cargs.toArray w fun e w'=>∃cv φ',e=.panicked [pe cv]/\Eff φ base G lo H w φ' H' w'/\VRel φ' v cv
theorem y5{k:CallR}(C:qv P base G k.pan)(M:base<=lo)(S:lo<=H.length){raised:Bool}{o:Oper}{h:HOp}{xs:List Operand}(hH:HRel φ base G H w)
  (e:resolve P o.op=(.h h,xs)) (B:∀x ∈ xs,VRel φ (ay T x)<|a.eval x) {p:Value} {H':Heap}
  (i:cz k lo (cG raised h) (xs.map<|ay T) H=some (p,H'))
  {K:Act->World->Prop} (hK:∀Z J w',Eff φ base G lo H w J H' w'->VRel J p Z->Q (.panic [pe Z]) a w'):o.wp P a w K Q:=by
 unfold resolve at e;cases s:bJ P o.op with
 | none=>grind[cz]
 | some q=>
 rw[s]at e;simp[aq₀]at e;subst e;obtain⟨dst,L,I,Y,u,guard⟩:=o;simp only at s;cases h<;>simp[cG]at i<;>try (simp[cz]at i;done)
 next r0=>
  cases raised<;>try (simp[cz]at i;done)
  have m:∃f args b,L=.call ⟨.value f,args,b⟩/\xs=f::args.toList:=by
   cases L<;>simp[bJ]at s
   case call c=>
    obtain⟨n,args,b⟩:=c;cases n
    all_goals grind[Option.map_eq_some_iff]
   case makeFunc fn first j=>grind
   all_goals grind[Option.bind_eq_some_iff,Option.map_eq_some_iff]
  obtain⟨f,args,b,rfl,rfl⟩:=m;simp[ag₀]at i;have N:=B f (by simp);have y:=LRel.map_left (ay T) a.eval args.toList (λx F=>B x (by simp[F]));generalize c0:ay T f=fv at i N;generalize O:a.eval f=fc at N;cases N<;>simp only[cz]at i<;>try (simp at i;done)
  rename_i g first cap d l W X U V
  obtain⟨⟨fn,R,z,A⟩,r⟩:=C _ g _ H p H' M S i;have hl:LRel φ (first.toList++args.toList.map (ay T)++cap.toList)<|d.toList++args.toList.map a.eval++l.toList:=
   ((LRel.arr.2 ⟨W,U⟩).append y).append<|LRel.arr.2 ⟨X,V⟩
  have b0:=r φ w _ hH hl;unfold Oper.wp;rw[uF O R z A];rw[Oper.upon_enter];have ha:(d.toList++args.toList.map a.eval++l.toList).toArray=d++args.map a.eval++l:=by
   simp_all
  grind[Calls.mono]
 .
  have D:∃x,L=.panic x/\xs=[x]:=by
   cases L<;>simp[bJ]at s
   case panic x=>simp_all
   case call c=>
    grind[Option.map_eq_some_iff]
   case makeFunc fn first j=>grind
   all_goals grind[Option.bind_eq_some_iff,Option.map_eq_some_iff]
  obtain⟨x,rfl,rfl⟩:=D;have F:=B x (by simp);simp[ag₀,al₀]at i;generalize g0:ay T x=xv at i F;generalize e0:a.eval x=xc at F;cases F<;>simp only[cz]at i<;>try (simp at i;done)
  rename_i t v v' hv;simp at i;obtain⟨rfl,rfl⟩:=i;unfold Oper.wp;have:(execOp a.eval ⟨dst,.panic x,I,Y,u,guard⟩).run P w=.halt (.panic<|.iface t v') w:=by
   simp_all[execOp,Instr.panic]
  rw[this,Oper.upon_panic];exact hK _ φ w (Eff.refl hH)<|.iface t v v' hv
theorem KJ{b:CallR}(j:fP P base G b.ret)(q:qv P base G b.pan)(k:base<=lo){ops:List Oper}{raised:Nat->Bool}{t:Nat}(n:∀o ∈ ops,(∀d,o.dst=some d->d<t)/\∀x ∈ (resolve P o.op).2,j2 G x=true)
  (l:List Nat) (m:lo<=H.length) (A:Tmps ds φ t T a) (y:HRel φ base G H w) {p:Value} {s:Raw} {H':Heap} (B:Mk P b lo ops raised l T H p s H')
  (z:∀a' w' c r,Tmps ds c t s a'->Eff φ base G lo H w c H' w'->VRel c p r->Q (.panic [pe r]) a' w'):wpOps P ops.toArray Q l a w:=by
 obtain⟨D,i,F,u,o,h,xs,rfl,I,J,K,L,M⟩:=B;refine ox (i::F) j k n D φ H w T a m A y s u I λv R N g e=>?_;rw[wpOps_cons];unfold wpOp;simp[aj₀,J];rw[m9 g o,K];left;refine y5 q k (Nat.le_trans m e.keeps.1) e.rel L (λx O=>g.eval e.rel.glob x (by
  grind[kj])) M λr c w' f C=>?_
 exact z v w' c r (g.mono f.le) (Eff.trans e f) C
end
section
variable {ds:List Deferred}{P:Program}{Q:Exit->Act->World->Prop}
theorem Hl{c:Code}(J:Nat->Act->World->Prop){m:Nat}{a:Act}{w:World}(s:J m a w)
  (p:∀m a w,J m a w->c.wp P (Exit.then (λa' w'=>∃u,u<m/\J u a' w') Q) a w):(Code.loop c).wp P Q a w:=by
 intro b k cs;have y:∀n a w,J n a w->∃e a' w',Q e a' w'/\Arrives P (lone (b.at a (.code c::.inLoop c::k)) cs w) b k cs e a' w':=by
  intro n
  induction n using Nat.strongRecOn with
  | _ n A=>
   intro a w z;have⟨e,f,g,i,d⟩:=p n a w z b (.inLoop c::k) cs;cases e with
   | normal=>
    have⟨u,v,j⟩:=i;have⟨r,q,t,o,h⟩:=A u v f g j;exact⟨r,q,t,o,.of_steps (Steps.trans d<|.one step_inLoop) h⟩
   | exit id=>exact⟨_,f,g,i,.pass (x:=.inLoop c) rfl (λ_ _=>.inl (by simp)) d⟩
   | goto l=>exact⟨_,f,g,i,.pass (x:=.inLoop c) rfl (λ_ _=>.inl (by simp)) d⟩
   | ret=>exact⟨_,f,g,i,.pass (x:=.inLoop c) rfl (λ_ _=>.inl (by simp)) d⟩
   | panic ch=>exact⟨_,f,g,i,.pass (x:=.inLoop c) rfl (λ_ _=>.inl (by simp)) d⟩
   | outgrown=>exact⟨_,f,g,i,.pass (x:=.inLoop c) rfl (λ_ _=>.inl (by simp)) d⟩
 have⟨e,a',w',i,d⟩:=y _ a w s;exact⟨e,a',w',i,.of_steps (.one step_loop) d⟩
variable {callA:CallR}{base lo n:Nat}
def nD(P:Program)(callA:CallR)(base:Nat):Prop:=
 (∀(lo:Nat) (Q:Exit->Act->World->Prop) (id nt:Nat) (ops:List Oper) (ds:List Deferred) (φ:Map) (H:Heap) (w:World) (T:Raw) (a:Act),base<=lo->lo<=H.length->opsOK P nt ops=true->fQ P ops=true ->
  Tmps ds φ nt T a->HRel φ base P.globals.size H w->∀T' H',bZ P callA.ret lo ops (bT P ops true) (dN P ops true) T H=some (T',H')->nG P ops true T' ->
  (∀a' w' φ',Tmps ds φ' nt T' a'->Eff φ base P.globals.size lo H w φ' H' w'->Q .normal a' w')->(Code.region id ops.toArray true).wp P Q a w) /\
 (∀(lo:Nat) (Q:Exit->Act->World->Prop) (id nt:Nat) (ops:List Oper) (ds:List Deferred) (φ:Map) (H:Heap) (w:World) (T:Raw) (a:Act),base<=lo->lo<=H.length->opsOK P nt ops=true->fQ P ops=true ->
  Tmps ds φ nt T a->HRel φ base P.globals.size H w->∀p T' H',C2 P callA lo ops true T H p T' H' ->
  (∀a' w' φ' cv,Tmps ds φ' nt T' a'->Eff φ base P.globals.size lo H w φ' H' w'->VRel φ' p cv->Q (.panic [pe cv]) a' w')->(Code.region id ops.toArray true).wp P Q a w)
def iC:Ex->Exit
 | .normal=>.normal
 | .exit i=>if aa<=i then .goto (i-aa) else .exit i
 | .ret=>.ret
theorem gR{i:Nat}(h:i<aa):iC (.exit i)=.exit i:=if_neg byO
theorem mD{i:Nat}(h:aa<=i):iC (.exit i)=.goto (i-aa):=if_pos h
theorem De{K:Act->World->Prop}{Q:Exit->Act->World->Prop}{i:Nat}{a:Act}{w:World}(h:Q (iC<|.exit i) a w):Exit.then K Q (iC<|.exit i) a w:=by
 unfold iC at *;simp only at *;split at h
 next e=>rw[if_pos e];exact h
 next e=>rw[if_neg e];exact h
def Ng(J:Nat->Act->World->Prop)(Q:Exit->Act->World->Prop):Exit->Act->World->Prop
 | .goto l,a,w=>J l a w
 | e,a,w=>Q e a w
theorem jY{J:Nat->Act->World->Prop}{Q:Exit->Act->World->Prop}{e:Exit}{a:Act}{w:World}(h:Q e a w)(b:∀l,e≠.goto l):Ng J Q e a w:=by
 cases e with
 | goto l=>simp_all
 | _=>exact h
theorem wx{c:Code}(J:Nat->Nat->Act->World->Prop){a:Act}{w:World}
  (first:c.wp P (Ng (λl a' w'=>∃m,J m l a' w') Q) a w)
  (v:∀m l a w,J m l a w->∃rest,findLabel c l=some rest/\rest.wp P (Ng (λl' a' w'=>∃B,B<m/\J B l' a' w') Q) a w):(Code.scope c).wp P Q a w:=by
 intro b k cs;have A:∀n l a w,J n l a w->∃r e a' w',gotoIn l (.inScope c::k)=some (.code r::.inScope c::k)/\Q e a' w'/\Arrives P (lone (b.at a (.code r::.inScope c::k)) cs w) b k cs e a' w':=by
  intro n
  induction n using Nat.strongRecOn with
  | _ n G=>
   intro l a w C;have⟨r,H,F⟩:=v n l a w C;have u:gotoIn l (.inScope c::k)=some (.code r::.inScope c::k):=by grind[gotoIn]
   have⟨e,d,g,o,f⟩:=F b (.inScope c::k) cs;cases e with
   | normal=>exact⟨r,.normal,d,g,u,o,Steps.trans f<|.one step_inScope⟩
   | exit id=>exact⟨r,.exit id,d,g,u,o,λz D=>f z (by assumption)⟩
   | goto l'=>
    have⟨B,y,t⟩:=o;have⟨x,q,p,s,i,j,h⟩:=G _ y l' d g t;exact⟨r,q,p,s,u,j,.of_steps (f _ i) h⟩
   | ret=>exact⟨r,_,d,g,u,o,f⟩
   | panic ch=>exact⟨r,_,d,g,u,o,f⟩
   | outgrown=>exact⟨r,_,d,g,u,o,f⟩
 have⟨e,d,g,o,f⟩:=first b (.inScope c::k) cs
 cases e with
 | normal=>exact⟨.normal,d,g,o,.head step_scope<|Steps.trans f<|.one step_inScope⟩
 | exit id=>exact⟨.exit id,d,g,o,λz D=>.head step_scope<|f z (by assumption)⟩
 | goto l'=>
  have⟨m,t⟩:=o;have⟨x,q,p,s,i,j,h⟩:=A m l' d g t;exact⟨q,p,s,j,.of_steps (.head step_scope<|f _ i) h⟩
 | ret=>exact⟨_,d,g,o,.of_steps (.one step_scope) f⟩
 | panic ch=>exact⟨_,d,g,o,.of_steps (.one step_scope) f⟩
 | outgrown=>exact⟨_,d,g,o,.of_steps (.one step_scope) f⟩
def KOK(P:Program)(base lo nt:Nat)(tr:List Nat)(ds:List Deferred)(Q:Exit->Act->World->Prop)(φ:Map)(H:Heap)(w:World)(ex:Ex)(S':List Value)(H':Heap):Prop:=
 (ex≠.exit cE->∀a' w' φ' T',dE tr S' T'->Tmps ds φ' nt T' a'->Eff φ base P.globals.size lo H w φ' H' w'->Q (iC ex) a' w') /\
 (∀p S1,ex=.exit cE->S'=p::S1->∀a' w' φ' T' cv,dE tr S1 T'->Tmps ds φ' nt T' a'->Eff φ base P.globals.size lo H w φ' H' w'->VRel φ' p cv->Q (.panic [pe cv]) a' w')
theorem KOK.step{m:Nat}{tr:List Nat}{φ b:Map}{H i:Heap}{w o:World}{k:Ex}{j:List Value}{H':Heap}(l:KOK P base lo m tr ds Q φ H w k j H')(e:Eff φ base P.globals.size lo H w b i o):KOK P base lo m tr ds Q b i o k j H':=
 ⟨λh a' w' a c d f g=>l.1 h a' w' a c d f<|Eff.trans e g,λp q t u a' w' a c r d f g s=>l.2 p q t u a' w' a c r d f (Eff.trans e g) s⟩
theorem KOK.normal{d:Nat}{tr:List Nat}{φ:Map}{H:Heap}{w:World}{b:List Value}{H':Heap}(h:∀a' w' a c,dE tr b c->Tmps ds a d c a'->Eff φ base P.globals.size lo H w a H' w'->Q .normal a' w'):KOK P base lo d tr ds Q φ H w .normal b H':=
 ⟨λ_=>h,λ_ _ e=>by cases e⟩
theorem KOK.imp{f:Exit->Act->World->Prop}{m:Nat}{tr:List Nat}{φ:Map}{H:Heap}{w:World}{d:Ex}{k:List Value}{H':Heap}(l:KOK P base lo m tr ds Q φ H w d k H')
  (r:d≠.exit cE->∀a w,Q (iC d) a w->f (iC d) a w) (s:∀c a w,Q (.panic c) a w->f (.panic c) a w):KOK P base lo m tr ds f φ H w d k H':=
 ⟨λe a' w' b g h i j=>r e _ _<|l.1 e a' w' b g h i j,λp o t u a' w' b g q h i j v=>s _ _ _<|l.2 p o t u a' w' b g q h i j v⟩
theorem KOK.then{K:Act->World->Prop}{d:Nat}{tr:List Nat}{φ:Map}{H:Heap}{w:World}{b:Ex}{c:List Value}{H':Heap}(e:KOK P base lo d tr ds Q φ H w b c H')(f:b≠.normal):KOK P base lo d tr ds (Exit.then K Q) φ H w b c H':=
 e.imp (λ_ a w h=>by
  cases b with
  | normal=>simp_all
  | exit i=>exact De h
  | ret=>exact h) λ_ _ _ h=>h
def zK(P:Program)(callA:CallR)(base lo nt:Nat)(tr:List Nat)(n:Nat)(c:Code)(st:Stm):Prop:=
 ∀(ds:List Deferred) (Q:Exit->Act->World->Prop) (φ:Map) (H:Heap) (w:World) (T:Raw) (a:Act) (S:List Value),dE tr S T->Tmps ds φ nt T a ->
   HRel φ base P.globals.size H w->lo<=H.length->∀ex S' H',exec callA lo n st S H=some (ex,S',H') ->
   KOK P base lo nt tr ds Q φ H w ex S' H'->c.wp P Q a w
theorem Db{tr:List Nat}{h:Nat}:zK P callA base lo h tr n .skip .skip:=by intro ds Q φ H w T a S d e b f j i H' g c;obtain⟨rfl,rfl,rfl⟩:=g;exact wp_skip<|c.1 (by simp) a w φ T d e<|Eff.refl b
theorem HL{tr:List Nat}{h:Nat}{x y:Code}{x' y':Stm}(c:zK P callA base lo h tr n x x')(f:zK P callA base lo h tr n y y'):zK P callA base lo h tr n (.seq x y)<|.seq x' y':=by
 intro ds Q φ H w T a S q r o b m k H' d p;apply wp_seq;simp[exec]at d;split at d
 next l j u=>
  exact c ds _ φ H w T a S q r o b .normal l j u (KOK.normal λt A i s v z g=>
   f ds Q i j A s t l v z g.rel (Nat.le_trans b g.keeps.1) m k H' d<|p.step g)
 .exact c ds _ φ H w T a S q r o b m k H' d (p.then λe=>by simp_all)
def lH(ls:List<|Nat×Stm):Stm:=ls.foldr (λx r=>.alt x.1 x.2 r) Lt
theorem uE{l:Nat}{S:List Value}{H:Heap}:∀(a:List<|Nat×Stm),exec callA lo n (lH a) (.int .i64 ((l:Nat):Int)::S) H=match a.find? (λx=>x.1==l)with
  | some x=>exec callA lo n x.2 S H
  | none=>none
 | []=>rfl
 | (l',s)::a=>by
  show exec callA lo n (.alt l' s<|lH a) (.int .i64 ((l:Nat):Int)::S) H=_;simp[exec,List.find?_cons];by_cases h:l'=l
  .subst h
   simp
  .have b:(l'==l)=false:=beq_eq_false_iff_ne.2 h
   have c:¬ ((l:Nat):Int)=((l':Nat):Int):=byO;rw[b,if_neg c];exact uE a
theorem nh{tr:List Nat}{k K:Nat}(f:∀c:Code,SizeOf.sizeOf c<K->∀st,bA P tr c=some st->bU P k c=true->zK P callA base lo k tr n c st) :
  ∀(c:Code),SizeOf.sizeOf c<K->∀d,ct P tr c=some d->bU P k c=true->∀l,match d.find? (λx=>x.1==l)with
   | some x=>∃rest,findLabel c l=some rest/\zK P callA base lo k tr n rest x.2
   | none=>findLabel c l=none
 | .seq x y,r,d,a,b,l=>by
  simp only[ct]at a;simp[bU,ac₀]at b;simp at r;split at a
  next q g o=>
   simp at a;subst a;have e:=nh f x byO [] g b.1 l;have m:=nh f y byO q o b.2 l;simp[List.find?_nil]at e;simp[findLabel,e];exact m
  next w p q g o=>
   split at a
   next y' s=>
    generalize w::p=j at g a;simp at a;subst a;have e:=nh f x byO j g b.1 l;have m:=nh f y byO q o b.2 l;have t:=f y byO y' s b.2;rw[List.find?_append,List.find?_map];cases i:j.find? (λx=>x.1==l)with
    | some z=>
     rw[i]at e;have⟨rest,u,v⟩:=e;have:j.find? ((λx=>x.1==l) ∘ λx=>(x.1,Stm.seq x.2 y'))=some z:=i;rw[this];exact⟨.seq rest y,by simp[findLabel,u],HL v t⟩
    | none=>
     rw[i]at e;have:j.find? ((λx=>x.1==l) ∘ λx=>(x.1,Stm.seq x.2 y'))=none:=i;rw[this];simp only at e;simp[Option.map_none,Option.none_or,findLabel,e];exact m
   .simp at a
  .simp at a
 | .label l',r,d,a,b,l=>by
  simp[ct,ab₀]at a;subst a;simp only[List.find?_cons,List.find?_nil,findLabel];by_cases h:(l'==l)=true
  .rw[h];exact⟨.skip,rfl,Db⟩
  .rw[Bool.not_eq_true]at h
   rw[h];rfl
 | .region _ _ _,_,d,a,_,l=>by simp[ct,ab₀]at a;subst a;rfl
 | .cond _ _ _,_,d,a,_,l=>by simp[ct,ab₀]at a;subst a;rfl
 | .block _ _,_,d,a,_,l=>by simp[ct,ab₀]at a;subst a;rfl
 | .loop _,_,d,a,_,l=>by simp[ct,ab₀]at a;subst a;rfl
 | .exit _,_,d,a,_,l=>by simp[ct,ab₀]at a;subst a;rfl
 | .ret,_,d,a,_,l=>by simp[ct,ab₀]at a;subst a;rfl
 | .skip,_,d,a,_,l=>by simp[ct,ab₀]at a;subst a;rfl
 | .goto _,_,d,a,_,l=>by simp[ct,ab₀]at a;subst a;rfl
 | .scope _,_,d,a,_,l=>by simp[ct]at a
 | .rangeFunc _ _ _ _,_,d,a,_,l=>by simp[ct]at a
 | .refuse _,_,d,a,_,l=>by simp[ct]at a
theorem fW{a:Nat}{ops:List Oper}(h:opsOK P a ops=true):∀o ∈ ops,(∀d,o.dst=some d->d<a)/\∀x ∈ (resolve P o.op).2,j2 P.globals.size x=true:=by
 intro o b;have:=List.all_eq_true.1 h o b
 grind
theorem uh(c:fP P base P.globals.size callA.ret)(e:nD P callA base)(g:base<=lo){id j:Nat}{ops:Array Oper}{draw:Bool}{φ:Map}{H:Heap}{w:World}{T:Raw}{a:Act}(h:lo<=H.length)
  (b:opsOK P j ops.toList=true) (k:draw=true->fQ P ops.toList=true) (o:Tmps ds φ j T a) (l:HRel φ base P.globals.size H w) {f:Raw} {H':Heap}
  (p:bZ P callA.ret lo ops.toList (bT P ops.toList draw) (dN P ops.toList draw) T H=some (f,H')) (d:nG P ops.toList draw f)
  (m:∀a' w' i,Tmps ds i j f a'->Eff φ base P.globals.size lo H w i H' w'->Q .normal a' w'):(Code.region id ops draw).wp P Q a w:=by
 cases draw
 .apply wp_region
  have:=PZ (Q:=Q) c g (fW b) (dN P ops.toList false) φ H w T a h o l f H' p m
  assumption
 .have:=e.1 lo Q id j ops.toList ds φ H w T a g h b (k rfl) o l f H' p d m
  omega
theorem se(c:fP P base P.globals.size callA.ret)(i:qv P base P.globals.size callA.pan)(d:nD P callA base)(f:base<=lo){id k:Nat}{ops:Array Oper}{draw:Bool}{φ:Map}{H:Heap}{w:World}{T:Raw}{a:Act}(g:lo<=H.length)
  (b:opsOK P k ops.toList=true) (m:draw=true->fQ P ops.toList=true) (s:Tmps ds φ k T a) (q:HRel φ base P.globals.size H w) {p:Value} {l:Raw} {H':Heap}
  (j:C2 P callA lo ops.toList draw T H p l H')
  (r:∀a' w' e o,Tmps ds e k l a'->Eff φ base P.globals.size lo H w e H' w'->VRel e p o->Q (.panic [pe o]) a' w'):(Code.region id ops draw).wp P Q a w:=by
 cases draw
 .rcases j with ⟨_,j⟩|⟨h,_⟩
  .apply wp_region
   have:=KJ (Q:=Q) c i f (fW b) _ g s q j r
   assumption
  .cases h
 .have:=d.2 lo Q id k ops.toList ds φ H w T a f g b (m rfl) s q p l H' j r
  omega
theorem kY{φ:Map}{e:Nat}{T:Raw}{a:Act}(d:Tmps ds φ e T a){c:Operand}{b:Bool}(h:ay T c=.bool b):a.eval c=.bool b:=by
 cases c with
 | tmp t=>
  have:=d.rel t;simp[ay]at h;rw[h]at this;show a.tmps.getD t undef=_;generalize a.tmps.getD t undef=c at this;cases this;rfl
 | const v=>exact h
 | global g=>assumption
 | func f=>assumption
theorem oA(U:fP P base P.globals.size callA.ret)(m0:qv P base P.globals.size callA.pan)(V:nD P callA base)(k0:base<=lo){tr:List Nat}(l0:Nd tr){nt:Nat} :
  ∀(k:Nat) (c:Code),SizeOf.sizeOf c<k->∀st,bA P tr c=some st->bU P nt c=true->∀(ds:List Deferred) (Q:Exit->Act->World->Prop) (φ:Map) (H:Heap) (w:World) (T:Raw) (a:Act) (S:List Value),dE tr S T->Tmps ds φ nt T a ->
   HRel φ base P.globals.size H w->lo<=H.length->∀A D H',exec callA lo n st S H=some (A,D,H') ->
   KOK P base lo nt tr ds Q φ H w A D H'->c.wp P Q a w:=by
 intro k
 induction k with
 | zero=>intro c hk;omega
 | succ k ih=>
 intro c hk st q g ds Q φ H w T a S N L O s A D H' f B;have b0:∀(id:Nat) (ops:Array Oper) (draw:Bool) (cd:Operand) (x y:Code) (l:List Stm) (e:E) (x' y':Stm),gC P tr ops.toList draw cd=some (l,e)->bA P tr x=some x'->bA P tr y=some y'->SizeOf.sizeOf x<k->SizeOf.sizeOf y<k ->
   opsOK P nt ops.toList=true->bU P nt x=true->bU P nt y=true->∀(Q:Exit->Act->World->Prop) (A:Ex) (D:List Value) (H':Heap),exec callA lo n (eD<|l++[.cond e x' y']) S H=some (A,D,H') ->
   KOK P base lo nt tr ds Q φ H w A D H'->∀(Qr:Exit->Act->World->Prop),(∀t u,(Code.cond cd x y).wp P Q t u->Qr .normal t u)->(∀c t u,Q (.panic c) t u->Qr (.panic c) t u)->(Code.region id ops draw).wp P Qr a w:=by
  intro id ops draw cd x y l e x' y' n0 w0 x0 S0 T0 W H0 R0 Q A D H' f B Qr r0 q0;rcases lA (ze l0 n0 N) f with ⟨z,C,g1,g2⟩|⟨rfl,p,z,rfl,hP⟩;rotate_left
  .have⟨c0,G,f1,f2⟩:=Eb l0 n0 N hP
   exact se U m0 V k0 s W c0 L O f2 λt u d cv M X h3=>q0 _ _ _<|B.2 p z rfl rfl t u d G cv f1 M X h3
  simp[exec]at g2;cases hv:ev1 z C e with
  | none=>rw[hv]at g2;simp at g2
  | some v=>
  have⟨c0,G,f1,f2,f3,f4⟩:=Ec l0 n0 N g1 hv;refine uh U V k0 s W c0 L O f1 f3 λt u d h0 F=>?_;rw[hv]at g2;apply r0 t u;split at g2
  next R=>
   simp at R;subst R;exact wp_cond_true (kY h0 f4)<|ih x S0 x' w0 H0 ds Q d C u G t z f2 h0 F.rel (Nat.le_trans s F.keeps.1) A D H' g2<|B.step F
  next R=>
   simp at R;subst R;exact wp_cond_false (kY h0 f4)<|ih y T0 y' x0 R0 ds Q d C u G t z f2 h0 F.rel (Nat.le_trans s F.keeps.1) A D H' g2<|B.step F
  .simp at g2
 unfold bA at q;split at q
 .
  simp at q;subst q;simp[exec]at f;obtain⟨rfl,rfl,rfl⟩:=f;exact wp_skip<|B.1 (by simp) a w φ T N L<|Eff.refl O
 .
  rename_i id ops draw;simp[aa₀]at q;obtain⟨l,hl,rfl⟩:=q;have W:opsOK P nt ops.toList=true:=by simpa[bU]using g
  rcases kn l0 hl N f with ⟨rfl,c0,T',f1,f2,f3⟩|⟨rfl,c0,p,z,T',rfl,f1,f2⟩
  .exact uh U V k0 s W c0 L O f1 f3 (λa' w' X0 M X=>B.1 (by simp) a' w' X0 T' f2 M X)
  .exact se U m0 V k0 s W c0 L O f2 λt u d cv M X h3=>B.2 p z rfl rfl t u d T' cv f1 M X h3
 .
  rename_i id ops draw cd x y;split at q
  next l e x' y' M X h3=>
   simp at q;subst q;simp[bU,ac₀]at g;simp at hk;exact wp_seq<|b0 id ops draw cd x y l e x' y' M X h3 byO byO g.1 g.2.1 g.2.2 Q A D H' f B _ (λt u h=>h) λ_ _ _ h=>h
  .simp at q
 .
  rename_i id ops draw cd x y r;split at q
  next l e x' y' r' M X h3 h4=>
   simp at q;subst q;simp[bU,ac₀]at g;simp at hk;apply wp_seq;simp[exec]at f;split at f
   next z C Y=>
    refine b0 id ops draw cd x y l e x' y' M X h3 byO byO g.1 g.2.1.1 g.2.1.2 (Exit.then (r.wp P Q) Q) .normal z C Y (KOK.normal λt u d G k1 k2 I=>?_) _ (λt u h=>wp_seq h) λ_ _ _ h=>h;exact ih r byO r' h4 g.2.2 ds Q d C u G t z k1 k2 I.rel (Nat.le_trans s I.keeps.1) A D H' f<|B.step I
   next K=>
    exact b0 id ops draw cd x y l e x' y' M X h3 byO byO g.1 g.2.1.1 g.2.1.2 (Exit.then (r.wp P Q) Q) A D H' f (B.then λe=>by subst e;exact K _ _ f) _ (λt u h=>wp_seq h) λ_ _ _ h=>h
  .simp at q
 .
  rename_i x y _ _;split at q
  next x' y' M X=>
   simp at q;subst q;simp[bU,ac₀]at g;simp at hk;apply wp_seq;simp[exec]at f;split at f
   next z C Y=>
    exact ih x byO x' M g.1 ds _ φ H w T a S N L O s .normal z C Y (KOK.normal λt u d G k1 k2 I=>
     ih y byO y' X g.2 ds Q d C u G t z k1 k2 I.rel (Nat.le_trans s I.keeps.1) A D H' f<|B.step I)
   next K=>
    exact ih x byO x' M g.1 ds _ φ H w T a S N L O s A D H' f (B.then λe=>by subst e;exact K _ _ f)
  .simp at q
 .
  rename_i cd x y;split at q
  next e x' y' M X h3=>
   simp at q;subst q;simp[bU,ac₀]at g;simp at hk;have he:=mP (H:=H) N M;simp[exec,he]at f;split at f
   next R=>
    simp at R;exact wp_cond_true (kY L R)<|ih x byO x' X g.1 ds Q φ H w T a S N L O s A D H' f B
   next R=>
    simp at R;exact wp_cond_false (kY L R)<|ih y byO y' h3 g.2 ds Q φ H w T a S N L O s A D H' f B
   .simp at f
  .simp at q
 .
  rename_i i b;split at q
  case isFalse=>simp at q
  rename_i y0;simp[aa₀]at q;obtain⟨b',R,rfl⟩:=q;simp at hk;apply wp_block;have o0:∀c a w,Q (.panic c) a w->Exit.inBlock i Q (.panic c) a w:=λ_ _ _ h=>h;simp[exec]at f;split at f
  next j z C Y=>
   split at f
   next hj=>
    simp at f;obtain⟨rfl,rfl,rfl⟩:=f;refine ih b byO b' R (by simpa[bU]using g) ds _ φ H w T a S N L O s (.exit j) _ _ Y ⟨λ_ t u d G k1 k2 I=>?_,λp S2 e=>by cases e;unfold cE at *;omega⟩;have:=B.1 (by simp) t u d G k1 k2 I;rw[gR (by unfold cE aa at *;omega)];simpa[iC,Exit.inBlock,hj]using this
   next hj=>
    simp at f;obtain⟨rfl,rfl,rfl⟩:=f;refine ih b byO b' R (by simpa[bU]using g) ds _ φ H w T a S N L O s (.exit j) _ _ Y<|B.imp (λ_ t u this=>?_) o0;by_cases hg:aa<=j
    .rw[mD hg]at this ⊢
     exact this
    .rw[gR byO]at this ⊢
     simpa[Exit.inBlock,hj]using this
  next K=>
   refine ih b byO b' R (by simpa[bU]using g) ds _ φ H w T a S N L O s A D H' f<|B.imp (λ_ t u this=>?_) o0;cases A with
   | normal=>exact this
   | exit i=>exact absurd f<|K _ _ _
   | ret=>exact this
 .
  rename_i b;simp[aa₀]at q;obtain⟨b',R,rfl⟩:=q;simp at hk;simp[exec]at f;apply Hl (λm t u=>∃z C d G,iter (exec callA lo n b') m z C=some (A,D,H')/\dE tr z G/\Tmps ds d nt G t/\Eff φ base P.globals.size lo H w d C u) ⟨S,H,φ,T,f,N,L,Eff.refl O⟩;rintro m t u ⟨z,C,d,G,e0,k1,k2,I⟩;cases m with
  | zero=>simp[iter]at e0
  | succ m=>
   simp[iter]at e0;split at e0
   next S2 H2 Y=>
    exact ih b byO b' R (by simpa[bU]using g) ds _ d C u G t z k1 k2 I.rel (Nat.le_trans s I.keeps.1) .normal S2 H2 Y
     (KOK.normal λa2 w2 g0 T2 q1 q2 q3=>⟨m,byO,S2,H2,g0,T2,e0,q1,q2,Eff.trans I q3⟩)
   next K=>
    exact ih b byO b' R (by simpa[bU]using g) ds _ d C u G t z k1 k2 I.rel (Nat.le_trans s I.keeps.1) A D H' e0 ((B.step I).then λe=>by subst e;exact K _ _ e0)
 .
  split at q
  case isFalse=>simp at q
  rename_i y0;simp at q;subst q;simp[exec]at f;obtain⟨rfl,rfl,rfl⟩:=f;have:=B.1 (by simp;omega) a w φ T N L<|Eff.refl O;rw[gR (by unfold cE aa at *;omega)]at this;exact wp_exit this
 .
  simp at q;subst q;simp[exec]at f;obtain⟨rfl,rfl,rfl⟩:=f;exact wp_ret<|B.1 (by simp) a w φ T N L<|Eff.refl O
 .
  simp at q;subst q;simp[exec]at f;obtain⟨rfl,rfl,rfl⟩:=f;exact wp_label<|B.1 (by simp) a w φ T N L<|Eff.refl O
 .
  rename_i l;simp at q;subst q;simp[exec]at f;obtain⟨rfl,rfl,rfl⟩:=f;have:=B.1 (by simp;unfold cE aa;omega) a w φ T N L<|Eff.refl O;rw[mD byO,Nat.add_sub_cancel_left]at this;exact wp_goto this
 .
  rename_i b;split at q
  next b' ls R z0=>
   simp at q;subst q;simp at hk;have p0:bU P nt b=true:=by simpa[bU]using g
   have W0:∀c:Code,SizeOf.sizeOf c<k->∀st,bA P tr c=some st->bU P nt c=true->zK P callA base lo nt tr n c st:=λc hk st M X ds Q φ H w T a S N L O s A D H' f B=>ih c hk st M X ds Q φ H w T a S N L O s A D H' f B;have s0:=nh W0 b byO ls z0 p0;have f:hop (exec callA lo n<|lH ls) n (exec callA lo n b' S H)=some (A,D,H'):=f;apply wx (λm l t u=>∃z C d G,hop (exec callA lo n<|lH ls) m (exec callA lo n (lH ls) (.int .i64 ((l:Nat):Int)::z) C)=some (A,D,H')/\dE tr z G/\Tmps ds d nt G t/\Eff φ base P.globals.size lo H w d C u)
   .cases Y:exec callA lo n b' S H with
    | none=>rw[Y]at f;cases n<;>simp[hop]at f
    | some o=>
     have⟨J,z,C⟩:=o;rw[Y]at f;refine ih b byO b' R p0 ds _ φ H w T a S N L O s J z C Y ⟨λK t u d G k1 k2 I=>?_,λp S2 e1 e2 t u d G cv k1 k2 I k4=>?_⟩;rotate_left
     .have:(J,z,C)=(A,D,H'):=by subst e1;cases n<;>simpa[hop,cE,aa]using f
      cases this;exact jY (B.2 p S2 e1 e2 t u d G cv k1 k2 I k4) (λl h=>by cases h)
     have Z:∀{e:Exit},(J,z,C)=(A,D,H')->iC J=e->Q e t u:=λ{e} he M=>by
      cases he;have:=B.1 K t u d G k1 k2 I;rw[M]at this;exact this
     cases J with
     | normal=>exact jY (Z (by cases n<;>simpa[hop]using f) rfl) (λl h=>by cases h)
     | ret=>exact jY (Z (by cases n<;>simpa[hop]using f) rfl) (λl h=>by cases h)
     | exit j=>
      by_cases hg:aa<=j
      .rw[mD hg]
       cases n with
       | zero=>simp[hop,hg]at f
       | succ n'=>
        simp[hop,if_pos hg]at f;exact⟨n',z,C,d,G,f,k1,k2,I⟩
      .rw[gR byO]
       exact jY (Z (e:=.exit j) (by cases n<;>simpa[hop,hg]using f)<|gR byO) (λl h=>by cases h)
   .rintro m l t u ⟨z,C,d,G,hh,k1,k2,I⟩
    rw[uE]at hh;have hl:=s0 l;cases hf:ls.find? (λx=>x.1==l)with
    | none=>rw[hf]at hh;cases m<;>simp[hop]at hh
    | some x=>
     rw[hf]at hh hl;have⟨rest,r1,r2⟩:=hl;refine⟨rest,r1,?_⟩;simp only at hh;cases Y:exec callA lo n x.2 z C with
     | none=>rw[Y]at hh;cases m<;>simp[hop]at hh
     | some o=>
      have⟨J,S2,H2⟩:=o;rw[Y]at hh;refine r2 ds _ d C u G t z k1 k2 I.rel (Nat.le_trans s I.keeps.1) J S2 H2 Y ⟨λK a2 w2 g0 T2 q1 q2 q3=>?_,λp S3 e1 e2 a2 w2 g0 T2 cv q1 q2 q3 q4=>?_⟩;rotate_left
      .have:(J,S2,H2)=(A,D,H'):=by subst e1;cases m<;>simpa[hop,cE,aa]using hh
       cases this;exact jY (B.2 p S3 e1 e2 a2 w2 g0 T2 cv q1 q2 (Eff.trans I q3) q4) (λl h=>by cases h)
      have q3:=Eff.trans I q3;have Z:∀{e:Exit},(J,S2,H2)=(A,D,H')->iC J=e->Q e a2 w2:=λ{e} he M=>by
       cases he;have:=B.1 K a2 w2 g0 T2 q1 q2 q3;rw[M]at this;exact this
      cases J with
      | normal=>exact jY (Z (by cases m<;>simpa[hop]using hh) rfl) (λl h=>by cases h)
      | ret=>exact jY (Z (by cases m<;>simpa[hop]using hh) rfl) (λl h=>by cases h)
      | exit j=>
       by_cases hg:aa<=j
       .rw[mD hg]
        cases m with
        | zero=>simp[hop,hg]at hh
        | succ m'=>
         simp[hop,if_pos hg]at hh;exact⟨m',byO,S2,H2,g0,T2,hh,q1,q2,q3⟩
       .rw[gR byO]
        exact jY (Z (e:=.exit j) (by cases m<;>simpa[hop,hg]using hh)<|gR byO) (λl h=>by cases h)
  .simp at q
 .simp at q
 .simp at q
end
section
variable {ds:List Deferred}{P:Program}{base lo n:Nat}
def nc(P:Program)(cp:FuncId->Option CF):Prop:=∀f cf,cp f=some cf->∃tr,aE P tr f=some cf
theorem sM:∀{tr:List Nat},nodup tr=true->Nd tr
 | [],_=>λi j t h=>by simp at h
 | x::r,h=>by
  simp[nodup,ac₀]at h;intro i j t a b;cases i with
  | zero=>
   grind
  | succ i=>
   cases j with
   | zero=>grind
   | succ j=>rw[sM h.2 i j t a b]
theorem A7{tr:List Nat}{φ:Map}{G F:Nat}{H:Heap}{w:World}{T:Raw}{a:Act}{S:List Value}(i:dE tr S T)(k:Tmps ds φ F T a)(o:HRel φ base G H w) :
  ∀{rs:List ResultVar} {f:List E} {vs:List Value},iR P tr rs=some f->evList S H f=some vs ->
   ∃cs,LRel φ vs cs/\(rs.mapM (λ| .tmp t=>pure (a.tmps.getD t undef) | .cell x t=>do loadVar t (<-asAddr<|a.tmps.getD x undef):ResultVar->Sem Value)).run P w=.ok cs w
 | [],f,vs,h,b=>by
  simp_all[iR,evList,LRel.nil]
 | .tmp t::rs,f,vs,h,b=>by
  simp[iR]at h;split at h
  next j l q r=>
   simp at h;subst h;simp[evList]at b;split at b
   next v p=>
    split at b
    next u e=>
     have⟨cs,z,A⟩:=A7 i k o r e;have:v=T t:=by
      have:=i.2 j t<|dB q
      grind[ev1,ev]
     grind[LRel.cons,Sem.run_bind,Sem.run_pure,Result.andThen_ok,Tmps.rel]
    .simp at b
   .simp at b
  .simp at h
 | .cell x t::rs,f,vs,h,b=>by
  simp[iR]at h;split at h
  next j agg m l q g D r=>
   simp at h;subst h;simp[evList]at b;split at b
   next v p=>
    split at b
    next u e=>
     simp at b;subst b;have⟨cs,z,A⟩:=A7 i k o r e;have I:=i.2 j x<|dB q;have d:aJ (.ld m agg) [T x] H=some v:=by
      grind[ev1,ev]
     have⟨y,B,C⟩:=Bf (P:=P) o.crel g D (k.rel x) d;refine⟨y::cs,LRel.cons C z,?_⟩;have:(do loadVar t (<-asAddr<|a.tmps.getD x undef):Sem Value).run P w=.ok y w:=by
      have s:=k.rel x;generalize a.tmps.getD x undef=c at B s ⊢;generalize T x=J at s d;cases s<;>simp[aJ]at d<;>try (simp at d)
      assumption
     grind[Sem.run_bind,Result.andThen_ok,Sem.run_pure]
    .simp at b
   .simp at b
  .simp at h
theorem wT{φ:Map}{vs cs:List Value}(h:LRel φ vs cs):VRel φ (aM vs) (if h:cs.toArray.size=1 then cs.toArray[0] else .tuple cs.toArray):=by
 by_cases b:vs.length=1
 .grind[List.length_eq_one_iff,aM,LRel.of_cons,LRel.of_nil]
 .have a:=h.1
  have e:aM vs=.tuple vs.toArray:=by
   unfold aM
   grind
  rw[e,dif_neg (by simp;omega)];exact .tuple _ _ (by simp[a]) (by simpa using h.2)
def Ends(φ:Map):Value ⊕ Value->Value->Ending->Prop
 | .inl v,cv,e=>e=.returned cv/\VRel φ v cv
 | .inr v,cv,e=>e=.panicked [pe cv]/\VRel φ v cv
def RunOK(P:Program)(base G:Nat)(c:CallR):Prop:=
 ∀lo f args H r H',base<=lo->lo<=H.length->c lo f args H=some (r,H') ->
  (∃ fn, P.funcs[f]? = some fn ∧ fn.body.isSome = true ∧ fn.name ≠ "runtime.NumGoroutine") ∧
  ∀φ w cargs,HRel φ base G H w->LRel φ args cargs->Calls P f cargs.toArray w fun e w'=>∃cv φ',Ends φ' r cv e/\Eff φ base G lo H w φ' H' w'
theorem nZ{c:CallR}{lo:Nat}{f:FuncId}{args:List Value}{H:Heap}{v:Value}{H':Heap}(h:c.ret lo f args H=some (v,H')):c lo f args H=some (.inl v,H'):=by grind[CallR.ret]
theorem sU{c:CallR}{lo:Nat}{f:FuncId}{args:List Value}{H:Heap}{v:Value}{H':Heap}(h:c.pan lo f args H=some (v,H')):c lo f args H=some (.inr v,H'):=by grind[CallR.pan]
theorem rW{c:CallR}{lo:Nat}{f:FuncId}{args:List Value}{H:Heap}{v:Value}{H':Heap}(h:c lo f args H=some (.inl v,H')):c.ret lo f args H=some (v,H'):=by grind[CallR.ret]
theorem zj{c:CallR}{lo:Nat}{f:FuncId}{args:List Value}{H:Heap}{v:Value}{H':Heap}(h:c lo f args H=some (.inr v,H')):c.pan lo f args H=some (v,H'):=by grind[CallR.pan]
theorem RunOK.toRet{G:Nat}{c:CallR}(h:RunOK P base G c):fP P base G c.ret:=λlo f args H v H' j k l=>
 let ⟨a,b⟩:=h lo f args H _ H' j k (nZ l)
 ⟨a,λφ w d m o=>(b φ w d m o).mono λ_ _ ⟨i,e,g,p⟩=>⟨i,e,g.1,p,g.2⟩⟩
theorem RunOK.toPan{G:Nat}{c:CallR}(h:RunOK P base G c):qv P base G c.pan:=λlo f args H v H' j k l=>
 let ⟨a,b⟩:=h lo f args H _ H' j k (sU l)
 ⟨a,λφ w d m o=>(b φ w d m o).mono λ_ _ ⟨i,e,g,p⟩=>⟨i,e,g.1,p,g.2⟩⟩
theorem lk{tr:List Nat}{d:Nat}{args:List Value}(h:args.length=d)(g:tr.take d=List.range d)(i:d<=tr.length)(e:Nd tr) :
  dE tr (args++List.replicate (tr.length-d) undef) λt=>args.getD t undef:=by
 subst h;refine⟨by simp;omega,λj t f=>?_⟩;have l:=(List.getElem?_eq_some_iff.1 f).1;by_cases b:j<args.length
 .have:tr[j]?=some j:=by
   have a:(tr.take args.length)[j]?=some j:=by rw[g,List.getElem?_range byO]
   rw[List.getElem?_take,if_pos byO]at a;exact a
  rw[f]at this;simp at this;subst this;rw[ax₀ b];simp[b]
 .have c:args.length<=t:=by
   refine Decidable.byContradiction λk=>?_;have a:tr[t]?=some t:=by
    have a:(tr.take args.length)[t]?=some t:=by rw[g,List.getElem?_range byO]
    rw[List.getElem?_take,if_pos byO]at a;exact a
   have:=e j t t f a;omega
  rw[aw₀ byO];simp[List.getElem?_replicate,c];omega
theorem n6{φ:Map}{d:Nat}{args a:List Value}(b:LRel φ args a)(h:args.length<=d) :
  Tmps [] φ d (λt=>args.getD t undef) { tmps:=a.toArray++Array.replicate (d-a.toArray.size) undef,defers:=[] }:=by
 have f:a.length=args.length:=b.1.symm;refine⟨by simp;omega,λt=>?_,rfl⟩;simp only[at₀];by_cases g:t<args.length
 .have c:args[t]?=some args[t]:=bc₀ g
  have e:a[t]?=some (a[t]'byO):=bc₀ byO;rw[Array.getElem?_append_left (by simp;omega)];simp[au₀,c,aj₀,e,aq₀];exact b.2 t _ _ c e
 .have c:args[t]?=none:=av₀ byO
  rw[Array.getElem?_append_right (by simp;omega)];simp only[au₀,c,Option.getD_none];have:((Array.replicate (d-a.toArray.size) undef)[t-a.toArray.size]?).getD undef=undef:=by
   rw[Array.getElem?_replicate];split<;>rfl
  rw[this];exact gX
theorem nY{tr:List Nat}{φ:Map}{k:Nat}{H:Heap}{w:World}{T:Raw}{a:Act}{S:List Value}{fn:Func}{d:List E}{vs:List Value}(i:dE tr S T)(j:Tmps ds φ k T a)(g:HRel φ base P.globals.size H w)
  (b:iR P tr fn.results.toList=some d) (c:evList S H d=some vs):∃v,(results fn a.tmps).run P w=.ok v w/\VRel φ (aM vs) v:=by have⟨cs,e,f⟩:=A7 (P:=P) i j g b c;refine⟨_,?_,wT e⟩;unfold results;rw[Array.mapM_eq_mapM_toList];simp only[Sem.run_bind,Sem.run_map];apply Eq.trans (congrArg (λr:Result (List Value)=>((r.andThen λa w'=>.ok a.toArray w').andThen λa w'=>(pure (if h:a.size=1 then a[0] else .tuple a):Sem Value).run P w')) f);rfl
inductive Comp (P:Program) (tr:List Nat) (fn:Func) (c:Code) (r:List E):CF->Prop where
 | plain (b:Stm) (h:bA P tr c=some b) (hc:bU P fn.ntmps c=true):Comp P tr fn c r ⟨fn.params.size+fn.nfree,tr.length,r,b,.plain⟩
 | dfr (b:Stm) (id:Nat) (ops:Array Oper) (y:Code) (t j:Nat) (l:List Stm) (s:Stm) (h:rM P tr fn.ntmps c=some (b,id,ops,y)) (ht:jy ops.toList=some t) (hj:idxOf tr t=some j)
   (hl:fY P tr ops.toList.dropLast false=some l) (hs:bA P tr y=some s) (ho:opsOK P fn.ntmps ops.toList.dropLast=true) (hy:bU P fn.ntmps y=true):Comp P tr fn c r ⟨fn.params.size+fn.nfree,tr.length,r,b,.dfr (eD l) j s⟩
 | rcv (id:Nat) (ops:Array Oper) (ops':List Oper) (t k:Nat) (rest:Code) (l:List Stm) (b:Stm) (h:IM c=some (id,ops,ops',t,rest)) (hk:idxOf tr t=some k) (hl:fY P tr ops' false=some l) (hb:bA P tr rest=some b)
   (ho:opsOK P fn.ntmps ops'=true) (hr:bU P fn.ntmps rest=true) (he:fn.results.isEmpty=true) (hnp:fn.params.size+fn.nfree<=t):Comp P tr fn c r ⟨fn.params.size+fn.nfree,tr.length,[],.seq (eD l) b,.rcv k⟩
theorem oC {f : FuncId} {cf : CF} {tr : List Nat} (h : aE P tr f = some cf) : ∃ fn c r, P.funcs[f]? = some fn ∧ fn.body = some c ∧ fn.name ≠ "runtime.NumGoroutine" ∧ tr.take (fn.params.size + fn.nfree) = List.range (fn.params.size + fn.nfree) ∧ Nd tr ∧
  fn.params.size+fn.nfree<=tr.length/\fn.params.size+fn.nfree<=fn.ntmps/\(∀t ∈ tr,t<fn.ntmps)/\iR P tr fn.results.toList=some r/\Comp P tr fn c r cf:=by
 unfold aE at h;split at h<;>try (simp at h;done)
 rename_i fn p;split at h<;>try (simp at h;done)
 rename_i c d;simp only at h;split at h<;>try (simp at h;done)
 rename_i e;obtain⟨w,c2,F,x,z,A⟩:=e;split at h<;>try (simp at h;done)
 rename_i r i;refine⟨fn,c,r,p,d,z,w,sM c2,x,A,fun t v=>by simp_all,i,?_⟩;split at h
 ·rename_i id ops m t rest g
  split at h<;>try (simp at h;done)
  rename_i k l b C u o;split at h<;>try (simp at h;done)
  rename_i a;simp at h;subst h;exact .rcv id ops m t k rest l b g C u o a.1 a.2.1 a.2.2.1 a.2.2.2
 ·split at h
  ·rename_i b id ops y B
   split at h<;>try (simp at h;done)
   rename_i j l s q u D;split at h<;>try (simp at h;done)
   rename_i a;simp at h;subst h;obtain⟨t,v,q⟩:=Option.bind_eq_some_iff.1 q;exact .dfr b id ops y t j l s B v q u D a.1 a.2
  ·split at h<;>try (simp at h;done)
   rename_i b o;split at h<;>try (simp at h;done)
   rename_i a;simp at h;subst h;exact .plain b o a
section deferred
variable {callA:CallR}
theorem w9{y:Exit->Act->List Frame->World->Prop}{cs:List Frame}(b:fP P base P.globals.size callA.ret)(m:base<=lo){ops:List Oper}{raised:Nat->Bool}{F:Nat}(f:∀o ∈ ops,(∀d,o.dst=some d->d<F)/\∀x ∈ (resolve P o.op).2,j2 P.globals.size x=true) :
  ∀(l:List Nat) (φ:Map) (H:Heap) (w:World) (T:Raw) (a:Act),lo<=H.length->Tmps ds φ F T a->HRel φ base P.globals.size H w->∀s H',bZ P callA.ret lo ops raised l T H=some (s,H') ->
   (∀a' w' k,Tmps ds k F s a'->Eff φ base P.globals.size lo H w k H' w'->y .normal a' cs w')->wpOpsS P ops.toArray y l a cs w
 | [],φ,H,w,T,a,_,t,z,s,H',g,A=>by
  obtain⟨rfl,rfl⟩:=g;exact A a w φ t<|Eff.refl z
 | i::l,φ,H,w,T,a,p,t,z,s,H',g,A=>by
  simp[bZ]at g;split at g
  next o L=>
   split at g
   next M I q=>
    have⟨J,hop⟩:=f o<|List.mem_of_getElem? L;simp[wpOpsS,aj₀,L];rw[m9 t o];unfold bV at q;split at q
    next S=>
     rw[S];simp ;have D:∃v,(match resolve P o.op with
       | (.l l,xs)=>(aJ l (xs.map<|ay T) H).map λv=>(v,H)
       | (.h h,xs)=>hsem callA.ret lo (cG (raised i) h) (xs.map<|ay T) H)=some (v,I)/\M=eV T o.dst v:=by
      grind
     obtain⟨v,R,rfl⟩:=D;have j:=GZ (Q:=λe a' w'=>y e a' cs w') (K:=λa' w'=>wpOpsS P ops.toArray y l a' cs w') (raised:=raised i) b m p t z hop R λU k w' c B=>
      w9 b m f l k I w' _ _ (Nat.le_trans p c.keeps.1) ((t.mono c.le).put J B) c.rel s H' g
      (λa' G u N O=>A a' G u N<|Eff.trans c O)
     unfold Oper.wp at j;generalize (execOp a.eval o).run P w=r at j;split
     .exact j.elim
     .exact j
    .have C:bR ops T o=false:=by simp_all
     rw[C];simp ;obtain⟨rfl,rfl⟩:=q;exact w9 b m f l φ H w _ _ p (t.put J gX) z s H' g A
   .simp at g
  .simp at g
theorem o7{ops ops2:List Oper}{r:Nat->Bool}(h:∀i,0<i->ops[i]?=ops2[i]?)(a:(ops[0]?).map (·.dst)=(ops2[0]?).map (·.dst)):∀(l:List Nat),(∀i ∈ l,0<i)->∀T H,bZ P callA.ret lo ops r l T H=bZ P callA.ret lo ops2 r l T H
 | [],_,T,H=>rfl
 | i::l,e,T,H=>by
  have g:=e i (by simp);simp[bZ,h i g];cases t:ops2[i]? with
  | none=>rfl
  | some o=>
   have p:bR ops T o=bR ops2 T o:=by
    unfold bR;cases f:o.guard with
    | none=>rfl
    | some q=>
     have⟨j,b⟩:=q;simp only;cases j with
     | succ j=>rw[h (j+1) byO]
     | zero=>
      cases d:ops[0]? with
      | none=>rw[d]at a;cases c:ops2[0]? with
       | none=>rfl
       | some s=>rw[c]at a;simp at a
      | some u=>
       rw[d]at a;cases c:ops2[0]? with
       | none=>rw[c]at a;simp at a
       | some s=>rw[c]at a;simp at a;simp[a]
   have m:bV P callA.ret lo ops (r i) o T H=bV P callA.ret lo ops2 (r i) o T H:=by
    unfold bV;rw[p]
   simp[m];split
   .exact o7 h a l (λj k=>e j (by simp[k])) _ _
   .rfl
theorem Es{c:Code}{id:Nat}{ops:Array Oper}{a:List Oper}{t:Nat}{rest:Code}(h:IM c=some (id,ops,a,t,rest)) :
  c=.seq (.region id ops false) rest/\∃o l tys ty b d,ops.toList=o::l/\o=⟨some t,.call ⟨.builtin .recover,#[],tys⟩,ty,b,d,none⟩/\a={ o with op:=.move (.tmp t) }::l:=by
 unfold IM at h;split at h<;>try (simp at h)
 split at h<;>try (simp at h)
 rename_i o l e;split at h<;>try (simp at h;done)
 simp at h;have⟨dst,op,ty,b,d,g⟩:=o
 grind
def Mode(φ:Map)(u:FrameMode)(rv:Value):Prop:=(u=.returning/\rv=.nilIface)\/∃cv,u=.panicking [pe cv]/\VRel φ rv cv
theorem KI{cp:FuncId->Option CF}(W0:nc P cp)(I:RunOK P base P.globals.size callA)(Z:nD P callA base)(q0:base<=lo){g:FuncId}{args m:List Value}{T:Value}{H L:Heap}{w:World}{φ:Map}{u:FrameMode}
  (h:mg cp callA lo n g args T H=some L) (x0:lo<=H.length) (hH:HRel φ base P.globals.size H w) (V:LRel φ args m) (hu:Mode φ u T) :
  (∃ fn, P.funcs[g]? = some fn ∧ fn.body.isSome = true ∧ fn.name ≠ "runtime.NumGoroutine") ∧ CallsD P g m.toArray u w fun e J w' => (∃ v, e = .returned v) ∧ settle J = .returning ∧ ∃ y, Eff φ base P.globals.size lo H w y L w' := by
 unfold mg at h;cases X:cp g with
 | none=>rw[X]at h;simp at h
 | some cg=>
 rw[X]at h;obtain⟨tr,m1⟩:=W0 g cg X;obtain⟨fn,c,r,s0,B,g0,c1,D,c4,c7,c3,x1,hC⟩:=oC m1;cases hC with
 | plain b hb hc=>simp at h
 | dfr=>simp at h
 | rcv id ops y1 t k rest l b r0 hk hl hb ho hr he z1=>
 simp only at h;split at h<;>try (simp at h;done)
 rename_i w0;refine⟨⟨fn,s0,by simp[B],g0⟩,?_⟩;obtain⟨rfl,o,l',tys,ty,A,af,Z0,rfl,rfl⟩:=Es r0;have F:ops=((⟨some t,.call ⟨.builtin .recover,#[],tys⟩,ty,A,af,none⟩:Oper)::l').toArray:=by rw[<-Z0]
 have X0:k<tr.length:=(List.getElem?_eq_some_iff.1 (dB hk)).1;have z0:t<fn.ntmps:=c3 t (List.mem_of_getElem? (dB hk))
 let T0:Raw:=fun x=>if x=t then T else args.getD x undef
 have p0:dE tr ((args++List.replicate (tr.length-(fn.params.size+fn.nfree)) undef).set k T) T0:=by
  have h0:=lk w0 c1 c4 D;refine⟨by rw[List.length_set];exact h0.1,fun j x s=>?_⟩;by_cases e0:k=j
  ·subst e0
   have:x=t:=by have:=dB hk;rw[s]at this;simpa using this
   subst this;simp only[T0,if_true];rw[List.getElem?_set_self (by rw[h0.1];exact X0)]
  ·rw[List.getElem?_set_ne e0,h0.2 j x s]
   have:x≠t:=fun e=>e0 (D k j t (dB hk) (e▸s));simp[T0,this]
 have H0:=n6 V (show args.length<=fn.ntmps by omega);have n0:∃q M K z,(q=Ex.normal\/q=.ret)/\exec callA lo n (eD l) ((args++List.replicate (tr.length-(fn.params.size+fn.nfree)) undef).set k T) H=some (.normal,M,K)/\exec callA lo n b M K=some (q,z,L):=by
  have o0:∀q z U,(q=Ex.normal\/q=.ret)->exec callA lo n (.seq (eD l) b) ((args++List.replicate (tr.length-(fn.params.size+fn.nfree)) undef).set k T) H=some (q,z,U)->U=L->∃q M K z,(q=Ex.normal\/q=.ret)/\exec callA lo n (eD l) ((args++List.replicate (tr.length-(fn.params.size+fn.nfree)) undef).set k T) H=some (.normal,M,K)/\exec callA lo n b M K=some (q,z,L):=by
   intro q z U C s he;subst he;simp only[exec]at s;split at s
   ·rename_i M K hs;exact⟨q,M,K,z,C,hs,s⟩
   ·rename_i Y0
    rcases kn D hl p0 s with ⟨e1,_⟩|⟨e1,_⟩
    ·subst e1;exact absurd s (Y0 _ _)
    ·subst e1;rcases C with h|h<;>cases h
  split at h
  ·rename_i z U s;simp at h;exact o0 .normal z U (.inl rfl) s h
  ·rename_i z U s;simp at h;exact o0 .ret z U (.inr rfl) s h
  ·simp at h
 obtain⟨q,M,K,z,C,p1,q1⟩:=n0;rcases kn D hl p0 p1 with ⟨_,_,T1,Q,g2,_⟩|⟨e1,_⟩;rotate_left
 ·cases e1
 have y0:List.range (l'.length+1)=0::(List.range l'.length).map (·+1):=by rw[List.range_succ_eq_map]
 simp only[dN,ah₀,if_false,ak₀]at Q;rw[y0]at Q;simp only[bZ,List.getElem?_cons_zero]at Q;split at Q;rotate_left
 ·simp at Q
 rename_i Tx Hx O;have R:Tx=T0/\Hx=H:=by
  simp only[bV,bR,if_true,Abs.resolve,bJ,aq₀,ag₀,al₀,ay,aJ]at O;simp only[ab₀,ad₀]at O;refine⟨?_,O.2.symm⟩;rw[<-O.1];funext x;simp only[eV];split
  ·rename_i e;rw[e]
  ·rfl
 rw[R.1,R.2]at Q;have m0:∀i ∈ (List.range l'.length).map (·+1),0<i:=fun i hi=>by
  obtain⟨j,_,rfl⟩:=List.mem_map.1 hi;exact Nat.succ_pos j
 rw[o7 (ops:=(⟨some t,.move (.tmp t),ty,A,af,none⟩:Oper)::l') (ops2:=(⟨some t,.call ⟨.builtin .recover,#[],tys⟩,ty,A,af,none⟩:Oper)::l') (fun i hi=>by
   obtain⟨i',rfl⟩:∃i',i=i'+1:=⟨i-1,byO⟩;simp) rfl _ m0]at Q
 have l0:∀o ∈ ((⟨some t,.call ⟨.builtin .recover,#[],tys⟩,ty,A,af,none⟩:Oper)::l'),(∀d,o.dst=some d->d<fn.ntmps)/\∀x ∈ (Abs.resolve P o.op).2,j2 P.globals.size x=true:=by
  intro o k0;rcases List.mem_cons.1 k0 with rfl|k0
  ·refine⟨fun d hd=>by simp only[ab₀]at hd;rw[<-hd];exact z0,fun x s=>?_⟩
   simp[Abs.resolve,bJ]at s
  ·exact fW ho o (by simp[k0])
 refine callsD_of_wpS s0 B fun f cs W=>?_;refine wpS_seq (wpS_region ?_);have b1:ops.size=l'.length+1:=by rw[F];simp
 rw[b1,y0];simp only[wpOpsS];have h0:ops[0]?=some ⟨some t,.call ⟨.builtin .recover,#[],tys⟩,ty,A,af,none⟩:=by rw[F];simp
 rw[h0];simp only[Region.wanted,if_true];have c0:∀(a:Act) (w:World),(execOp a.eval ⟨some t,.call ⟨.builtin .recover,#[],tys⟩,ty,A,af,none⟩).run P w=.ok .recover w:=by
  intro a w;simp only[execOp,Go.resolve,Sem.run_bind,Sem.run_pure,Result.andThen_ok,invoke,builtin]
 rw[c0];simp only;have go:∀(N:Value) (J:FrameMode),VRel φ T N->settle J=.returning->wpOpsS P ops (Exit.thenS (rest.wpS P (bodyPostS P fn f cs fun e J w'=>(∃v,e=.returned v)/\settle J=.returning/\∃y,Eff φ base P.globals.size lo H w y L w')) (bodyPostS P fn f cs fun e J w'=>(∃v,e=.returned v)/\settle J=.returning/\∃y,Eff φ base P.globals.size lo H w y L w'))
   ((List.range l'.length).map (·+1)) (({ tmps:=m.toArray++Array.replicate (fn.ntmps-m.toArray.size) undef,defers:=[] }:Act).put (some t) N) ({ f with mode:=J }::cs) w:=by
  intro N J Y o1;have R0:Tmps [] φ fn.ntmps T0 (({ tmps:=m.toArray++Array.replicate (fn.ntmps-m.toArray.size) undef,defers:=[] }:Act).put (some t) N):=by
   have:=H0.put (dst:=some t) (fun d hd=>by cases hd;exact z0) Y;exact this
  rw[F];refine w9 I.toRet q0 l0 _ φ H w T0 _ x0 R0 hH T1 K Q fun a1 w1 r1 S0 b0=>?_;refine wpS_of_wp ?_;refine oA (n:=n) I.toRet I.toPan Z q0 D (SizeOf.sizeOf rest+1) rest byO b hb hr [] _ r1 K w1 T1 a1 M g2 S0 b0.rel (Nat.le_trans x0 b0.keeps.1) q z L q1 ⟨fun _ a2 w2 u1 T2 h1 h2 h3=>?_,fun p S3 e=>by rcases C with rfl|rfl<;>cases e⟩;have S:a2.defers=[]/\∃u2,({ f with mode:=J }::cs:List Frame)={ f with mode:=u2 }::cs/\∃v,(results fn a2.tmps).run P w2=.ok v w2/\((∃v',Ending.returned v=.returned v')/\settle u2=.returning/\∃y,Eff φ base P.globals.size lo H w y L w2):=by
   refine⟨h2.defers,J,rfl,.tuple #[],?_,⟨_,rfl⟩,o1,u1,Eff.trans b0 h3⟩;have:fn.results=#[]:=by simpa using he
   simp[results,this]
  rcases C with rfl|rfl
  ·exact S
  ·exact S
 rcases hu with ⟨rfl,rfl⟩|⟨N,rfl,Y⟩
 ·have G:recoverD (f::cs)=none:=by simp[recoverD,W]
  rw[G];simp only;have:=go .nilIface .returning .nilIface rfl;rw[show({ f with mode:=.returning }:Frame)=f by rw[<-W]]at this;exact this
 ·have G:recoverD (f::cs)=some (N,{ f with mode:=.panicking [{ v:=N,recovered:=true }] }::cs):=by simp[recoverD,W,pe]
  rw[G];simp only;exact go N (.panicking [{ v:=N,recovered:=true }]) Y rfl
theorem E9(k:fP P base P.globals.size callA.ret)(o:qv P base P.globals.size callA.pan)(l:nD P callA base)(t:base<=lo){tr:List Nat}(u:Nd tr){q id:Nat}{ops:Array Oper}{y:Code} :
  ∀(c:Code) (s:Stm),rM P tr q c=some (s,id,ops,y)->∀(Q:Exit->Act->World->Prop) (φ:Map) (H:Heap) (w:World) (T:Raw) (a:Act) (S:List Value),dE tr S T->Tmps ds φ q T a ->
   HRel φ base P.globals.size H w->lo<=H.length->∀e j H',exec callA lo n s S H=some (e,j,H') ->
   KOK P base lo q tr ds (Exit.then ((Code.seq (.region id ops false) y).wp P Q) Q) φ H w e j H'->c.wp P Q a w:=by
 have step:∀(x b:Code) (s:Stm) (x':Stm),(∀(Q:Exit->Act->World->Prop) (φ:Map) (H:Heap) (w:World) (T:Raw) (a:Act) (S:List Value),dE tr S T->Tmps ds φ q T a ->
   HRel φ base P.globals.size H w->lo<=H.length->∀e j H',exec callA lo n s S H=some (e,j,H') ->
   KOK P base lo q tr ds (Exit.then ((Code.seq (.region id ops false) y).wp P Q) Q) φ H w e j H'->b.wp P Q a w)->bA P tr x=some x'->bU P q x=true ->
   ∀(Q:Exit->Act->World->Prop) (φ:Map) (H:Heap) (w:World) (T:Raw) (a:Act) (S:List Value),dE tr S T->Tmps ds φ q T a ->
   HRel φ base P.globals.size H w->lo<=H.length->∀e j H',exec callA lo n (.seq x' s) S H=some (e,j,H') ->
   KOK P base lo q tr ds (Exit.then ((Code.seq (.region id ops false) y).wp P Q) Q) φ H w e j H'->(Code.seq x b).wp P Q a w:=by
  intro x b s x' X f g Q φ H w T a S D F B m e j H' p C;apply wp_seq;simp[exec]at p;split at p
  next L K V=>
   exact oA k o l t u (SizeOf.sizeOf x+1) x byO x' f g ds _ φ H w T a S D F B m .normal L K V (KOK.normal λU w1 J R Y Z I=>
    X Q J K w1 R U L Y Z I.rel (Nat.le_trans m I.keeps.1) e j H' p<|C.step I)
  next v=>
   refine oA k o l t u (SizeOf.sizeOf x+1) x byO x' f g ds _ φ H w T a S D F B m e j H' p<|C.imp (λ_ a w h=>?_) λ_ _ _ h=>h;cases e with
   | normal=>exact absurd p<|v _ _
   | exit i=>unfold iC at *;simp only at *;split at h<;>rename_i N<;>first|(rw[if_pos N];exact h)|(rw[if_neg N];exact h)
   | ret=>exact h
 intro c
 induction c with
 | seq x b _ z=>
  intro s d;unfold rM at d;split at d<;>try (simp at d;done)
  next W O draw y0 r=>
   cases r;split at d
   next M=>
    simp[ab₀,ad₀]at d;obtain⟨rfl,rfl,rfl,rfl⟩:=d;simp[ac₀,Bool.not_eq_true']at M;obtain⟨rfl,_⟩:=M;intro Q φ H w T a S D F B m e j H' p C;simp[exec]at p;obtain⟨rfl,rfl,rfl⟩:=p;exact C.1 (by simp) a w φ T D F<|Eff.refl B
   .split at d<;>try (simp at d;done)
    rename_i A r0 G;split at d<;>try (simp at d;done)
    rename_i x' f;split at d<;>try (simp at d;done)
    rename_i g;simp[ab₀,ad₀]at d;obtain⟨rfl,rfl⟩:=d;exact step _ _ A x' (z A G) f g
  next x0 b0 v r=>
   cases r;split at d<;>try (simp at d;done)
   rename_i A r0 G;split at d<;>try (simp at d;done)
   rename_i x' f;split at d<;>try (simp at d;done)
   rename_i g;simp[ab₀,ad₀]at d;obtain⟨rfl,rfl⟩:=d;exact step _ _ A x' (z A G) f g
 | _=>intro s d;simp[rM]at d
theorem tQ{ops:List Oper}{t:Nat}(h:jy ops=some t):∃tys ty a b,ops=ops.dropLast++[⟨none,.defer ⟨.value<|.tmp t,#[],tys⟩,ty,a,b,none⟩]:=by
 unfold jy at h;split at h<;>try (simp at h)
 rename_i o c;have⟨dst,d,ty,a,b,g⟩:=o
 grind[List.dropLast_concat_getLast,List.length_pos_iff]
theorem o9{a:List Oper}{ol:Oper}{r:Nat->Bool}(f:ol.dst=none):∀(l:List Nat),(∀i ∈ l,i<a.length)->∀T H,bZ P callA.ret lo (a++[ol]) r l T H=bZ P callA.ret lo a r l T H
 | [],_,T,H=>rfl
 | i::l,h,T,H=>by
  have g:=h i (by simp);have m:(a++[ol])[i]?=a[i]?:=ax₀ g;have e:a[i]?=some a[i]:=bc₀ g;simp[bZ,m,e];have p:bR (a++[ol]) T a[i]=bR a T a[i]:=by
   unfold bR;cases k:(a[i]).guard with
   | none=>rfl
   | some q=>
    have⟨j,b⟩:=q;simp only;by_cases c:j<a.length
    .rw[ax₀ c]
    .rw[aw₀ byO,av₀ (l:=a) byO]
     by_cases d:j=a.length
     .subst d;simp[f]
     .rw[av₀ (by simp;omega)]
  have o:bV P callA.ret lo (a++[ol]) (r i) a[i] T H=bV P callA.ret lo a (r i) a[i] T H:=by
   unfold bV;rw[p]
  rw[o];split
  .exact o9 f l (λj c=>h j (by simp[c])) _ _
  .rfl
end deferred
theorem Gw{cp:FuncId->Option CF}(z:∀n,RunOK P base P.globals.size (run cp n)->nD P (run cp n) base)(s0:nc P cp):∀n,RunOK P base P.globals.size (run cp n)
 | 0=>fun lo f args H r H' _ _ h=>by simp[run]at h
 | n+1=>by
  intro lo f args H r H' X H0 h;have b:=Gw z s0 n;simp only[run]at h;cases r0:cp f with
  | none=>rw[r0]at h;simp at h
  | some cf=>
  rw[r0]at h;simp only at h;split at h<;>try (simp at h;done)
  rename_i m0;obtain⟨tr,p2⟩:=s0 f cf r0;obtain⟨fn,c,x1,x0,G,S0,c1,N,c4,c7,c3,c0,hC⟩:=oC p2;refine⟨⟨fn,x0,by simp[G],S0⟩,fun φ w U hH W=>?_⟩;cases hC with
  | plain L I c6=>
   simp only at h m0;have hS:=lk m0 c1 c4 N;have hT:=n6 W (show args.length<=fn.ntmps by omega);refine calls_of_wp x0 G ?_;have C:=fun(R:Ending->World->Prop) V F B hK=>oA (n:=n) b.toRet b.toPan (z n b) X N (SizeOf.sizeOf c+1) c byO L I c6 [] (bodyPost P fn R) φ H w _ _ _ hS hT hH H0 V F H' B hK;have W0:∀V F ,(V=Ex.normal\/V=Ex.ret)->exec (run cp n) lo n L (args++List.replicate (tr.length-(fn.params.size+fn.nfree)) undef) H=some (V,F,H') ->
     (∃vs,evList F H' x1=some vs/\r=.inl (aM vs)) ->
     c.wp P (bodyPost P fn (fun e w'=>∃M k,Ends k r M e/\Eff φ base P.globals.size lo H w k H' w')) { tmps:=U.toArray++Array.replicate (fn.ntmps-U.toArray.size) undef,defers:=[] } w:=by
    rintro V F X0 B ⟨vs,D,rfl⟩;refine C _ V F B ⟨fun _ a' w' k T' h1 h2 h3=>?_,fun p S1 e=>by rcases X0 with rfl|rfl<;>cases e⟩;obtain⟨v,e0,g0⟩:=nY h1 h2 h3.rel c0 D;have p0:a'.defers=[]/\∃v,(results fn a'.tmps).run P w'=.ok v w'/\∃M k,Ends k (.inl (aM vs)) M (Ending.returned v)/\Eff φ base P.globals.size lo H w k H' w':=
     ⟨h2.defers,_,e0,_,k,⟨rfl,g0⟩,h3⟩
    rcases X0 with rfl|rfl
    ·exact p0
    ·exact p0
   split at h
   ·rename_i F H1 B
    split at h
    ·rename_i vs D
     simp at h;obtain⟨rfl,rfl⟩:=h;exact W0 .normal F (.inl rfl) B ⟨vs,D,rfl⟩
    ·simp at h
   ·rename_i F H1 B
    split at h
    ·rename_i vs D
     simp at h;obtain⟨rfl,rfl⟩:=h;exact W0 .ret F (.inr rfl) B ⟨vs,D,rfl⟩
    ·simp at h
   ·rename_i j p F H1 B
    split at h
    ·rename_i hj
     simp at h;obtain⟨rfl,rfl⟩:=h;subst hj;refine C _ _ _ B ⟨fun b0=>absurd rfl b0,fun p' S1 _ e a' w' k T' M h1 h2 h3 h4=>?_⟩;cases e;exact⟨h2.defers,M,k,⟨rfl,h4⟩,h3⟩
    ·simp at h
   ·simp at h
  | rcv=>simp at h
  | dfr L id ops y t j l s I ht hj hl hs ho hy=>
   simp only at h m0;have hS:=lk m0 c1 c4 N;have hT:=n6 W (show args.length<=fn.ntmps by omega);refine calls_of_wp_defers x0 G ?_;have C:=fun(R:Ending->World->Prop) V F H1 B hK=>E9 (n:=n) b.toRet b.toPan (z n b) X N c L I (bodyPostD P fn R) φ H w _ _ _ hS hT hH H0 V F H1 B hK;unfold kp at h;split at h
   ·
    rename_i S H1 B;unfold sf at h;split at h<;>try (simp at h;done)
    rename_i vs D;simp at h;obtain⟨rfl,rfl⟩:=h;refine C _ _ _ _ B ⟨fun _ a' w' k T' h1 h2 h3=>?_,fun p S1 e=>by cases e⟩;obtain⟨v,e0,g0⟩:=nY h1 h2 h3.rel c0 D;show Leaves P fn a'.tmps _ a'.defers .returning w';rw[h2.defers];exact⟨v,e0,_,k,⟨rfl,g0⟩,h3⟩
   ·
    rename_i i p S H1 B;split at h<;>try (simp at h;done)
    rename_i hi;simp at h;obtain⟨rfl,rfl⟩:=h;subst hi;refine C _ _ _ _ B ⟨fun b0=>absurd rfl b0,fun p' S1 _ e a' w' k T' M h1 h2 h3 h4=>?_⟩;cases e;show Leaves P fn a'.tmps _ a'.defers (.panicking [pe M]) w';rw[h2.defers];exact⟨M,k,⟨rfl,h4⟩,h3⟩
   ·rename_i S H1 B
    split at h<;>try (simp at h;done)
    rename_i S1 H2 hm;split at h<;>try (simp at h;done)
    rename_i g first cap G1
    refine C _ _ _ _ B (KOK.normal fun a1 w1 u2 T1 k1 k2 k3=>?_);obtain⟨tys,ty,k0,af,o0⟩:=tQ ht;rcases kn N hl k1 hm with ⟨_,_,T2,g1,g2,_⟩|⟨e1,_⟩;rotate_left
    ·cases e1
    have z0:ops.size=ops.toList.dropLast.length+1:=by
     have:ops.toList.length=(ops.toList.dropLast++[(⟨none,.defer ⟨.value (.tmp t),#[],tys⟩,ty,k0,af,none⟩:Oper)]).length:=congrArg List.length o0;simpa using this
    have Z:=Nat.le_trans H0 k3.keeps.1;refine wp_seq (wp_region ?_);rw[z0,List.range_succ];have X1:ops=(ops.toList.dropLast++[(⟨none,.defer ⟨.value (.tmp t),#[],tys⟩,ty,k0,af,none⟩:Oper)]).toArray:=by rw[<-o0]
    have T0:∀o ∈ ops.toList.dropLast++[(⟨none,.defer ⟨.value (.tmp t),#[],tys⟩,ty,k0,af,none⟩:Oper)],(∀d,o.dst=some d->d<fn.ntmps)/\∀x ∈ (Abs.resolve P o.op).2,j2 P.globals.size x=true:=by
     intro o O;rcases List.mem_append.1 O with O|O
     ·exact fW ho o O
     ·simp at O;subst O
      exact⟨fun d hd=>by simp at hd,fun x B=>by simp[Abs.resolve,bJ]at B⟩
    simp only[dN,ah₀,if_false]at g1;rw[<-o9 (ol:=(⟨none,.defer ⟨.value (.tmp t),#[],tys⟩,ty,k0,af,none⟩:Oper)) rfl _ (fun i hi=>by simpa using hi)]at g1;generalize Y1:ops.toList.dropLast=u1 at *;rw[X1];refine ox [u1.length] b.toRet X T0 _ u2 H1 w1 T1 a1 Z k2 k3.rel T2 H2 g1 fun a2 w2 n0 q1 q2=>?_;have e2:=Eff.trans k3 q2;have Z0:T2 t=.func (.func g) first cap:=by
     have:=g2.2 j t (dB hj);rw[G1]at this;simpa using this.symm
    have y0:=q1.rel t;rw[Z0]at y0;generalize B1:a2.tmps.getD t undef=fc at y0;cases y0 with
    | func _ _ _ a q m2 o2 Z1 b2=>
    rw[wpOps_cons];unfold wpOp;simp only[aj₀,aw₀ (Nat.le_refl _),Nat.sub_self,List.getElem?_cons_zero,Region.wanted,if_true];left;unfold Oper.wp;have w0:(execOp a2.eval (⟨none,.defer ⟨.value (.tmp t),#[],tys⟩,ty,k0,af,none⟩:Oper)).run P w2=.ok (.defer { target:=.fn (.func g) q,args:=a++#[] }) w2:=by
     have he:a2.eval (.tmp t)=.func (.func g) a q:=B1;simp only[execOp,Go.resolve,he,Deferred.ofValue,Sem.run_bind,Sem.run_pure,Result.andThen_ok];simp
    rw[w0,Oper.upon_defer];have y1:Tmps [{ target:=.fn (.func g) q,args:=a++#[] }] n0 fn.ntmps T2 (({ a2 with defers:={ target:=.fn (.func g) q,args:=a++#[] }::a2.defers }:Act).put none undef):=by
     refine⟨q1.size,q1.rel,?_⟩;show _::a2.defers=_;rw[q1.defers]
    have l0:∀{m:Map},n0.le m->LRel m (first.toList++cap.toList) (a.toList++q.toList):=fun L1=>
     ((LRel.arr.2 ⟨m2,Z1⟩).append (LRel.arr.2 ⟨o2,b2⟩)).mono L1
    have rest:=fun(R:Ending->World->Prop) V F Q B hK=>oA (n:=n) b.toRet b.toPan (z n b) X N (SizeOf.sizeOf y+1) y byO s hs hy _ (bodyPostD P fn R) n0 H2 w2 T2 _ S1 g2 y1 q2.rel (Nat.le_trans Z q2.keeps.1) V F Q B hK;have K:∀(S2:List Value) (Q H4:Heap) (rv:Value) (u:FrameMode) (T:Act) (w3:World) (m:Map) (T3:Raw),dE tr S2 T3->Tmps [{ target:=.fn (.func g) q,args:=a++#[] }] m fn.ntmps T3 T->Eff n0 base P.globals.size lo H2 w2 m Q w3->Mode m u rv->u≠.run ->
      mg cp (run cp n) lo n g (first.toList++cap.toList) rv Q=some H4->sf x1 S2 H4=some (r,H') ->
      Leaves P fn T.tmps (fun e w'=>∃M k,Ends k r M e/\Eff φ base P.globals.size lo H w k H' w') T.defers u w3:=by
     intro S2 Q H4 rv u T w3 m T3 r1 r2 r3 R0 p1 J A;have m1:lo<=Q.length:=Nat.le_trans (Nat.le_trans Z q2.keeps.1) r3.keeps.1;obtain⟨⟨q0,Y0,y2,W1⟩,A1⟩:=KI (n:=n) s0 b (z n b) X J m1 r3.rel (l0 r3.le) R0;rw[r2.defers];unfold sf at A;split at A<;>try (simp at A;done)
     rename_i vs D;simp at A;obtain⟨rfl,rfl⟩:=A;have b1:(invoke (.fn (.func g) q) (a++#[])).run P w3=.ok (.enter g (a.toList++q.toList).toArray) w3:=by
      have z1:q0.body.isNone=false:=by cases h:q0.body<;>simp_all
      have N1 : (q0.name == "runtime.NumGoroutine") = false := by simpa using W1
      simp only[invoke,callFunc,Sem.run_bind,run_program,Y0,Result.andThen_ok];rw[if_neg (by simp[N1]),if_neg (by simp[z1])];simp
     refine leaves_cons p1 b1 (A1.mono fun e u' w4 ⟨⟨v,hv⟩,o1,x2,Y⟩=>?_);subst hv;show Leaves P fn T.tmps _ [] (settle u') w4;rw[o1];obtain⟨v2,e0,g0⟩:=nY r1 (r2.mono Y.le) Y.rel c0 D;exact⟨v2,e0,_,x2,⟨rfl,g0⟩,Eff.trans e2 (Eff.trans r3 Y)⟩
    split at h
    ·rename_i S2 Q h0
     split at h<;>try (simp at h;done)
     rename_i H4 J;exact rest _ _ _ _ h0 ⟨fun _ T w3 m T3 r1 r2 r3=>K S2 Q H4 _ .returning T w3 m T3 r1 r2 r3 (.inl ⟨rfl,rfl⟩) (by simp) J h,fun p S3 e=>by cases e⟩
    ·rename_i S2 Q h0
     split at h<;>try (simp at h;done)
     rename_i H4 J;exact rest _ _ _ _ h0 ⟨fun _ T w3 m T3 r1 r2 r3=>K S2 Q H4 _ .returning T w3 m T3 r1 r2 r3 (.inl ⟨rfl,rfl⟩) (by simp) J h,fun p S3 e=>by cases e⟩
    ·rename_i i p S2 Q h0
     split at h<;>try (simp at h;done)
     rename_i hi;split at h<;>try (simp at h;done)
     rename_i H4 J;subst hi;refine rest _ _ _ _ h0 ⟨fun b0=>absurd rfl b0,fun p' S3 _ e T w3 m T3 M r1 r2 r3 r4=>?_⟩;cases e;exact K S2 Q H4 p (.panicking [pe M]) T w3 m T3 r1 r2 r3 (.inr ⟨M,rfl,r4⟩) (by simp) J h
    ·simp at h
   ·simp at h
end
end Go.Abs
