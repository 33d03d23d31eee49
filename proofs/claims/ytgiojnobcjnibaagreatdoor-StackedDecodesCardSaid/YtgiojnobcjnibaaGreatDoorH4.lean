/- Lemmas. -/
import Derived.Test.YtgiojnobcjnibaaGreatDoorH3
import Derived.Orders
import Derived.Scope
import Derived.Recover
set_option linter.all false
def Xs{P:Prop}(h:P:=by simpa[b7]using g):P:=h
namespace Go.Abs
section
variable {ds:List Deferred}{P:Program}{callA:dd}{base G lo:Nat}{φ:Map}{H:Heap}{w:World}{T:Raw}{a:Act}{Q:Exit->Act->World->Prop}
structure Tmps (ds:List Deferred)(φ:Map)(nt:Nat)(T:Raw)(a:Act):Prop where
 size:a.tmps.size=nt
 rel:∀t,VRel φ (T t) (a.tmps.getD t undef)
 defers:a.defers=ds
theorem Tmps.mono{ψ:Map}{b:Nat}(h:φ.le ψ)(r:Tmps ds φ b T a):Tmps ds ψ b T a:=⟨r.size,λt=>(r.rel t).mono h,r.defers⟩
theorem Tmps.put{b:Nat}(r:Tmps ds φ b T a){dst:Option Nat}(h:∀d,dst=some d->d<b){v c:Value}(i:VRel φ v c):Tmps ds φ b (fZ T dst v)<|a.put dst c:=by
 cases dst with
 | none=>assumption
 | some d=>
  refine⟨by grind[Act.put,size],λt=>?_,r.defers⟩;have f:d<a.tmps.size:=by grind[size]
  simp only[fZ,Act.put];by_cases e:t=d
  .simp_all
  .have:=r.rel t
   simp ;have g:(a.tmps.setIfInBounds d c).getD t undef=a.tmps.getD t undef:=by
    simp[at₀]
    grind
   simp_all
theorem Tmps.eval{e:Nat}(r:Tmps ds φ e T a)(c:∀g,g<G->∃n,φ g=some ⟨g,0,n,0⟩)(x:Operand)(b:match x with | .const v=>gT v=true | .global g=>g<G|_=>True):VRel φ (ah T x)<|a.eval x:=by
 cases x with
 | tmp t=>exact r.rel t
 | const v=>exact iS φ b
 | global g=>have⟨n,d⟩:=c g b;exact .ptr g 0 _<|Map.of_some.2 ⟨d,rfl⟩
 | func f=>exact .func f #[] #[] #[] #[] rfl rfl (λj x y b=>by simp at b) (λj x y b=>by simp at b)
abbrev kv:=mq
theorem nq{ops:List Oper}{e:Nat}(r:Tmps ds φ e T a)(o:Oper):Region.wanted o (yielded ops.toArray a.tmps)=bY ops T o:=by
 unfold Region.wanted bY;cases h:o.guard with
 | none=>rfl
 | some q=>
  have⟨j,d⟩:=q;simp[yielded,aj₀];cases i:ops[j]? with
  | none=>rfl
  | some f=>
   simp ;cases g:f.dst with
   | none=>rfl
   | some t=>
    simp[ao₀,xI];have:=r.rel t;rw[at₀]at this;cases b:a.tmps[t]? with
    | none=>
     rw[b]at this;generalize T t=v at this;cases this<;>rfl
    | some c=>
     rw[b]at this;generalize T t=v at this ⊢;cases this<;>simp
def gM(P:Program)(base G:Nat)(callA:dd):Prop:=
 ∀lo f args H v H',base<=lo->lo<=H.length->callA lo f args H=some (v,H') ->
  (∃ fn, P.funcs[f]? = some fn ∧ fn.body.isSome = true ∧ fn.name ≠ "runtime.NumGoroutine") ∧
  ∀φ w cargs,HRel φ base G H w->LRel φ args cargs->Calls P f cargs.toArray w fun e w'=>∃cv φ',e=.returned cv/\Eff φ base G lo H w φ' H' w'/\VRel φ' v cv
theorem Eff.weaken{f:Map}{d:Nat}{H':Heap}{w':World}(h:lo<=d)(e:Eff φ base G d H w f H' w'):Eff φ base G lo H w f H' w':=
 ⟨e.le,e.rel,e.keeps,e.size,λb m n=>e.keep b m λi c p g=>n i c p<|Nat.le_trans h g,
  λi p g o=>(e.fresh i p g o).imp id λ⟨j,c,q,k,l⟩=>⟨j,c,q,Nat.le_trans h k,l⟩,e.os,e.out⟩
theorem vt{j:Operand->Value}{dst:Option Tmp}{f:Operand}{args:Array Operand}{argTypes:Array TypeId}{type:TypeId}{pos:String}{c:Array Edge}{guard:Option (Nat×Bool)}{g:FuncId}{b d:Array Value}{fn:Func}
  (k : j f = .func (.func g) b d) (h : P.funcs[g]? = some fn) (l : fn.body.isSome = true) (m : fn.name ≠ "runtime.NumGoroutine") :
  (execOp j ⟨dst,.call ⟨.value f,args,argTypes⟩,type,pos,c,guard⟩).run P w=.ok (.enter g (b++args.map j++d)) w:=by
 have e:fn.body.isNone=false:=Wx
 have i : (fn.name == "runtime.NumGoroutine") = false := by simp_all
 simp only[execOp,Go.resolve,Sem.run_bind,k,Deferred.ofValue,Sem.run_pure,Result.andThen_ok,invoke,callFunc,run_program,h];rw[if_neg (by simp[i]),if_neg Yf];rfl
theorem zq{c:Op}{xs:List Operand}(b:an P c=some (.h .callC,xs)):False:=by
 cases c<;>simp[an]at b
 all_goals grind[Option.bind_eq_some_iff,Option.map_eq_some_iff]
def zr{i:Op}{n:Nat}{xs:List Operand}(d:an P i=some (.h<|.callK n,xs)):False:=by
 cases i<;>simp[an]at d
 case call c=>
  have⟨e,args,argTypes⟩:=c;cases e
  .grind
  .grind
  next b=>
   cases b<;>simp only at d
   all_goals repeat' (first|(simp at d;done)|split at d|(simp[ae₀,aa₀]at d;have⟨_,_,d⟩:=d))
 case makeFunc fn g f=>cases fn<;>simp at d
 all_goals (repeat' (first|(simp at d;done)|split at d|(simp only[ae₀,aa₀]at d;have⟨_,_,d⟩:=d)))
def sZ{i:Op}{b:Bool}{xs:List Operand}(d:an P i=some (.h<|.call b,xs)):b=false:=by
 cases b with
 | false=>rfl
 | true=>
  exfalso;cases i<;>simp[an]at d
  case call c=>
   have⟨e,args,argTypes⟩:=c;cases e
   .grind
   .grind
   next b=>
    cases b<;>simp only at d
    all_goals repeat' (first|(simp at d;done)|split at d|(simp[ae₀,aa₀]at d;have⟨_,_,d⟩:=d))
  case makeFunc fn g f=>cases fn<;>simp at d
  all_goals (repeat' (first|(simp at d;done)|split at d|(simp only[ae₀,aa₀]at d;have⟨_,_,d⟩:=d)))
def Eo{b:Op}{xs:List Operand}(c:Abs.resolve P b=(.h .callC,xs)):False:=by
 unfold Abs.resolve at c;cases d:an P b with
 | none=>simp_all
 | some q=>grind[zq]
def Ep{d:Op}{n:Nat}{xs:List Operand}(b:Abs.resolve P d=(.h<|.callK n,xs)):False:=by
 unfold Abs.resolve at b;cases c:an P d with
 | none=>rw[c]at b;grind
 | some q=>rw[c]at b;simp[aq₀]at b;subst b;exact zr c
def Am{callA:dd}{lo n:Nat}{vs:XV}{H H':Heap}{v:Value}(h:di callA lo n vs H=some (v,H')){x:Value}(d:x ∈ vs.take n){i:Nat}(b:aT x=some i):H'.get i=H.get i:=by
 unfold di at h;split at h
 .split at h
  next g e f=>
   split at h
   next c=>
    simp[ab₀,ad₀]at h;obtain⟨rfl,rfl⟩:=h;exact IL (List.all_eq_true.1 c x d) b
   .cases h
  .cases h
 .cases h
def vS{callA:dd}{lo n:Nat}{vs:XV}{H:Heap}{r:Value×Heap}(h:di callA lo n vs H=some r):hsem callA lo (.call false) (vs.drop n) H=some r:=by
 unfold di at h;split at h
 next f b c args e=>
  split at h
  next v H' d=>
   split at h
   .simp[ab₀]at h;subst h
    rw[e];simp only[hsem,ah₀,if_false];exact d
   .cases h
  .cases h
 .cases h
def D1{P:Program}{callA:dd}{lo:Nat}{k:dG}{o:Oper}{T:Raw}{H:Heap}{r:Value×Heap}
  (d:(match rsv P k o with
   | (.l l,xs)=>(aG l (xs.map<|ah T) H).map λv=>(v,H)
   | (.h h,xs)=>hsem callA lo h (xs.map<|ah T) H)=some r) :
  (match resolve P o.op with
   | (.l l,xs)=>(aG l (xs.map<|ah T) H).map λv=>(v,H)
   | (.h h,xs)=>hsem callA lo h (xs.map<|ah T) H)=some r:=by
 unfold rsv at d;cases c:Abs.resolve P o.op with
 | mk f xs=>
 rw[c]at d;cases f with
 | l l=>exact d
 | h i=>
  cases i<;>try (exact d)
  rename_i b;cases k with
  | none=>exact d
  | some l=>
   have g:b=false:=by
    unfold Abs.resolve at c;cases e:an P o.op with
    | none=>rw[e]at c;grind
    | some q=>
     rw[e]at c;simp[aq₀]at c;subst c;exact sZ e
   subst g;have:=vS (show di callA lo l.length ((l++xs).map<|ah T) H=some r from d);rw[List.map_append,List.drop_left' Wc]at this;exact this
def D0{P:Program}{c:CallR}{lo:Nat}{k:dG}{o:Oper}{h:HOp}{xs:List Operand}{vs:XV}{H:Heap}{r:Value×Heap}
  (b:rsv P k o=(.h h,xs)) (g:ct c lo h vs H=some r):Abs.resolve P o.op=(.h h,xs):=by
 unfold rsv at b;cases f:Abs.resolve P o.op with
 | mk d ys=>
 rw[f]at b;cases d with
 | l l=>simp[uZ]at b
 | h e=>
  cases e<;>try (exact b)
  cases k with
  | none=>exact b
  | some l=>
   simp[uZ,ad₀,ROp.h.injEq]at b;obtain⟨rfl,rfl⟩:=b;simp[ct]at g
def DJ(B:gM P base G callA)(I:base<=lo)(Z:lo<=H.length){o:Oper}(L:HRel φ base G H w)
  (n:∀x ∈ (resolve P o.op).2,VRel φ (ah T x)<|a.eval x) {v:Value} {H':Heap}
  (m:(match resolve P o.op with
   | (.l l,xs)=>(aG l (xs.map<|ah T) H).map λv=>(v,H)
   | (.h h,xs)=>hsem callA lo h (xs.map<|ah T) H)=some (v,H'))
  {K:Act->World->Prop} (M:∀y k w',Eff φ base G lo H w k H' w'->VRel k v y->K (a.put o.dst y) w'):o.wp P a w K Q:=by
 unfold resolve at m n;cases d:an P o.op with
 | none=>rw[d]at m;simp[hsem]at m
 | some q=>
 have⟨g0,xs⟩:=q;rw[d]at m n;simp[aq₀]at m n;have u:=n;cases g0 with
 | l l=>
  simp[aa₀,ad₀]at m;obtain⟨v',Y,rfl,rfl⟩:=m;have⟨y,O,R⟩:=pN d u L.crel Y;unfold Oper.wp;rw[O];exact M y φ w (Eff.refl L) R
 | h h=>
  by_cases hc:h.isCall=true
  .cases h<;>simp[HOp.isCall]at hc
   rotate_left
   .exact(zr d).elim
   .exact(zq d).elim
   have hb:=sZ d;subst hb;have⟨dst,op,type,pos,N,guard⟩:=o;have r:∃f args argTypes,op=.call ⟨.value f,args,argTypes⟩/\xs=f::args.toList:=by
    cases op<;>simp[an]at d
    case call c=>
     have⟨s,args,argTypes⟩:=c;cases s
     .simp at d;exact⟨_,_,_,rfl,d.symm⟩
     .grind
     next b=>
      cases b<;>simp only at d
      all_goals repeat' (first|(simp at d;done)|split at d|(simp[ae₀,aa₀]at d;have⟨_,_,d⟩:=d))
    case makeFunc fn j D=>cases fn<;>simp at d
    all_goals (repeat' (first|(simp at d;done)|split at d|(simp only[ae₀,aa₀]at d;have⟨_,_,d⟩:=d)))
   obtain⟨f,args,argTypes,rfl,rfl⟩:=r;simp[ag₀]at m;have V:=u f Wc;have z:=LRel.map_left (ah T) a.eval args.toList (λx hx=>u x (by simp[hx]));generalize h0:ah T f=fv at m V;generalize W:a.eval f=fc at V;cases V<;>simp[hsem]at m<;>try simp at m;done
   rename_i g j F i p c0 e0 a0 b0
   have⟨⟨fn,X,A,C⟩,t⟩:=B lo g _ H v H' I Z (show callA lo g (j.toList++args.toList.map (ah T)++F.toList) H=some (v,H') by simpa using m);have Y:LRel φ (j.toList++args.toList.map (ah T)++F.toList)<|i.toList++args.toList.map a.eval++p.toList:=
    ((LRel.arr.2 ⟨c0,a0⟩).append z).append<|LRel.arr.2 ⟨e0,b0⟩
   have U:=t φ w _ L Y;unfold Oper.wp;rw[vt W X A C];rw[Oper.upon_enter];have ha:(i.toList++args.toList.map a.eval++p.toList).toArray=i++args.map a.eval++p:=by
    apply Array.toList_inj.1;simp
   rw[<-ha];refine U.mono λe w' ⟨y,k,he,J,hv⟩=>?_;subst he;exact M y k w' J hv
  .have S:h.isCall=false:=by simpa using hc
   simp only at m;have⟨nx,y,w',k,O,R,h3,h4⟩:=Ht d S u L I m;unfold Oper.wp;rw[O];rcases R with rfl|⟨rfl,rfl⟩
   .exact M y k w' h3 h4
   .exact M undef k w' h3 h4
def Ij(b:gM P base G callA)(d:base<=lo)(e:lo<=H.length){raised:dG}{o:Oper}{n:Nat}(j:Tmps ds φ n T a)(g:HRel φ base G H w)
  (hop:∀x ∈ (resolve P o.op).2,kv G x=true) {v:Value} {H':Heap}
  (k:(match rsv P raised o with
   | (.l l,xs)=>(aG l (xs.map<|ah T) H).map λv=>(v,H)
   | (.h h,xs)=>hsem callA lo h (xs.map<|ah T) H)=some (v,H'))
  {K:Act->World->Prop} (i:∀f c w',Eff φ base G lo H w c H' w'->VRel c v f->K (a.put o.dst f) w'):o.wp P a w K Q:=
 DJ b d e g (λx m=>j.eval g.glob x (by
  have:=hop x m;cases x<;>simp[kv,mq]at this ⊢<;>exact this)) (D1 k) i
def p0(y:XN)(c:gM P base G callA)(k:base<=lo){ops:List Oper}{raised:Nat->dG}{D:Nat}(f:∀o ∈ ops,(∀d,o.dst=some d->d<D)/\∀x ∈ (resolve P o.op).2,kv G x=true) :
  ∀(l:XN) (φ:Map) (H:Heap) (w:World) (T:Raw) (a:Act),lo<=H.length->Tmps ds φ D T a->HRel φ base G H w->∀n H',bg P callA lo ops raised l T H=some (n,H') ->
   (∀a' w' j,Tmps ds j D n a'->Eff φ base G lo H w j H' w'->wpOps P ops.toArray Q y a' w')->wpOps P ops.toArray Q (l++y) a w
 | [],φ,H,w,T,a,_,p,t,n,H',g,u=>by
  simp[bg]at g;obtain⟨rfl,rfl⟩:=g;exact u a w φ p<|Eff.refl t
 | i::l,φ,H,w,T,a,m,p,t,n,H',g,u=>by
  simp[bg]at g;split at g
  next o L=>
   split at g
   next M J b=>
    have⟨K,hop⟩:=f o<|List.mem_of_getElem? L;rw[am₀,wpOps_cons];unfold wpOp;simp[aj₀,L];rw[nq p o];unfold bZ at b;split at b
    next A=>
     rw[A];simp[if_true];left;have C:∃v,(match rsv P (raised i) o with
       | (.l l,xs)=>(aG l (xs.map<|ah T) H).map λv=>(v,H)
       | (.h h,xs)=>hsem callA lo h (xs.map<|ah T) H)=some (v,J)/\M=fZ T o.dst v:=by
      cases q:rsv P (raised i) o with
      | mk F xs=>
      rw[q]at b;cases F with
      | l l=>
       simp only at b ⊢;split at b
       next v r=>simp at b;obtain⟨rfl,rfl⟩:=b;exact⟨v,by simp[r],rfl⟩
       .grind
      | h h=>
       simp only at b ⊢;split at b
       next v R r=>simp at b;obtain⟨rfl,rfl⟩:=b;exact⟨v,r,rfl⟩
       .grind
     obtain⟨v,r,rfl⟩:=C;refine Ij (raised:=raised i) c k m p t hop r λS j w' e z=>?_;exact p0 y c k f l j J w' _ _ (Nat.le_trans m e.keeps.1) ((p.mono e.le).put K z) e.rel n H' g
      (λa' I s N O=>u a' I s N<|Eff.trans e O)
    next A=>
     have B:bY ops T o=false:=by simpa using A
     rw[B];simp[ah₀,if_false];simp at b;obtain⟨rfl,rfl⟩:=b;exact p0 y c k f l φ H w _ _ m (p.put K fu) t n H' g u
   .grind
  .grind
def Qw(b:gM P base G callA)(g:base<=lo){ops:List Oper}{raised:Nat->dG}{i:Nat}(c:∀o ∈ ops,(∀d,o.dst=some d->d<i)/\∀x ∈ (resolve P o.op).2,kv G x=true)
  (l:XN) (φ:Map) (H:Heap) (w:World) (T:Raw) (a:Act) (h:lo<=H.length) (m:Tmps ds φ i T a) (j:HRel φ base G H w) (f H') (n:bg P callA lo ops raised l T H=some (f,H'))
  (k:∀a' w' e,Tmps ds e i f a'->Eff φ base G lo H w e H' w'->Q .normal a' w'):wpOps P ops.toArray Q l a w:=by have:=p0 (Q:=Q) [] b g c l φ H w T a h m j f H' n k;rwa [List.append_nil]at this
def pe(cv:Value):PanicEntry:={ v:=cv,recovered:=false }
def sS(P:Program)(base G:Nat)(callA:dd):Prop:=
 ∀lo f args H v H',base<=lo->lo<=H.length->callA lo f args H=some (v,H') ->
  (∃ fn, P.funcs[f]? = some fn ∧ fn.body.isSome = true ∧ fn.name ≠ "runtime.NumGoroutine") ∧
  ∀φ w cargs,HRel φ base G H w->LRel φ args cargs->Calls P f cargs.toArray w fun e w'=>∃cv φ',e=.panicked [pe cv]/\Eff φ base G lo H w φ' H' w'/\VRel φ' v cv
def zx{r:CallR}(J:sS P base G r.pan)(S:base<=lo)(Y:lo<=H.length){o:Oper}{h:HOp}{xs:List Operand}(hH:HRel φ base G H w)
  (i:resolve P o.op=(.h h,xs)) (F:∀x ∈ xs,VRel φ (ah T x)<|a.eval x) {p:Value} {H':Heap}
  (m:ct r lo h (xs.map<|ah T) H=some (p,H'))
  {K:Act->World->Prop} (hK:∀N z w',Eff φ base G lo H w z H' w'->VRel z p N->Q (.panic [pe N]) a w'):o.wp P a w K Q:=by
 unfold resolve at i;cases d:an P o.op with
 | none=>rw[d]at i;simp at i;obtain⟨rfl,rfl⟩:=i;simp[ct]at m
 | some q=>
 rw[d]at i;simp[aq₀]at i;subst i;obtain⟨dst,O,type,pos,A,guard⟩:=o;simp only at d;cases h<;>try simp[ct]at m;done
 next r0=>
  cases r0<;>try simp[ct]at m;done
  have u:∃f args argTypes,O=.call ⟨.value f,args,argTypes⟩/\xs=f::args.toList:=by
   cases O<;>simp[an]at d
   case call c=>
    obtain⟨j,args,argTypes⟩:=c;cases j
    .simp at d;exact⟨_,_,_,rfl,d.symm⟩
    .simp at d
    next b=>
     cases b<;>simp only at d
     all_goals repeat' (first|(simp at d;done)|split at d|(simp[ae₀,aa₀]at d;obtain⟨_,_,d⟩:=d))
   case makeFunc fn l n=>cases fn<;>simp at d
   all_goals (repeat' (first|(simp at d;done)|split at d|(simp only[ae₀,aa₀]at d;obtain⟨_,_,d⟩:=d)))
  obtain⟨f,args,argTypes,rfl,rfl⟩:=u;simp[ag₀]at m;have V:=F f Wc;have B:=LRel.map_left (ah T) a.eval args.toList (λx M=>F x (by simp[M]));generalize g0:ah T f=fv at m V;generalize W:a.eval f=fc at V;cases V<;>simp only[ct]at m<;>try simp at m;done
  rename_i g l R k s b0 c0 Z a0
  obtain⟨⟨fn,X,C,D⟩,y⟩:=J _ g _ H p H' S Y m;have hl:LRel φ (l.toList++args.toList.map (ah T)++R.toList)<|k.toList++args.toList.map a.eval++s.toList:=
   ((LRel.arr.2 ⟨b0,Z⟩).append B).append<|LRel.arr.2 ⟨c0,a0⟩
  have U:=y φ w _ hH hl;unfold Oper.wp;rw[vt W X C D];rw[Oper.upon_enter];have ha:(k.toList++args.toList.map a.eval++s.toList).toArray=k++args.map a.eval++s:=by
   apply Array.toList_inj.1;simp
  rw[<-ha];refine U.mono λe w' ⟨N,z,he,I,hv⟩=>?_;subst he;exact hK N z w' I hv
 .
  have L:∃x,O=.panic x/\xs=[x]:=by
   cases O<;>simp only[an]at d
   case panic x=>simp at d;exact⟨x,rfl,d.symm⟩
   case call c=>
    obtain⟨j,args,argTypes⟩:=c;cases j
    .simp at d
    .simp at d
    next b=>
     cases b<;>simp only at d
     all_goals repeat' (first|(simp at d;done)|split at d|(simp only[ae₀,aa₀]at d;obtain⟨_,_,d⟩:=d))
   case makeFunc fn l n=>cases fn<;>simp at d
   all_goals (repeat' (first|(simp at d;done)|split at d|(simp only[ae₀,aa₀]at d;obtain⟨_,_,d⟩:=d)))
  obtain⟨x,rfl,rfl⟩:=L;have M:=F x Wc;simp only[ag₀,al₀]at m;generalize h0:ah T x=xv at m M;generalize e0:a.eval x=xc at M;cases M<;>simp only[ct]at m<;>try simp at m;done
  rename_i t v v' hv;simp at m;obtain⟨rfl,rfl⟩:=m;unfold Oper.wp;have:(execOp a.eval ⟨dst,.panic x,type,pos,A,guard⟩).run P w=.halt (.panic<|.iface t v') w:=by
   simp only[execOp,Sem.run_bind,e0,Instr.panic,goPanic];rfl
  rw[this,Oper.upon_panic];exact hK _ φ w (Eff.refl hH)<|.iface t v v' hv
def MI{b:CallR}(k:gM P base G b.ret)(q:sS P base G b.pan)(m:base<=lo){ops:List Oper}{raised:Nat->dG}{u:Nat}(g:∀o ∈ ops,(∀d,o.dst=some d->d<u)/\∀x ∈ (resolve P o.op).2,kv G x=true)
  (l:XN) (n:lo<=H.length) (D:Tmps ds φ u T a) (B:HRel φ base G H w) {p:Value} {t:Raw} {H':Heap} (F:OU P b lo ops raised l T H p t H')
  (C:∀a' w' c r,Tmps ds c u t a'->Eff φ base G lo H w c H' w'->VRel c p r->Q (.panic [pe r]) a' w'):wpOps P ops.toArray Q l a w:=by
 obtain⟨K,i,L,z,o,h,xs,rfl,M,v,N,s,y⟩:=F;refine p0 (i::L) k m g K φ H w T a n D B t z M λA S O j e=>?_;have⟨R,hop⟩:=g o<|List.mem_of_getElem? v;rw[wpOps_cons];unfold wpOp;simp[aj₀,v];rw[nq j o,N];simp[if_true];left;have s:=D0 s y;rw[s]at hop;refine zx q m (Nat.le_trans n e.keeps.1) e.rel s (λx J=>j.eval e.rel.glob x (by
  have:=hop x J;cases x<;>simp[kv,mq]at this ⊢<;>exact this)) y λr c w' f I=>?_
 exact C A w' c r (j.mono f.le) (Eff.trans e f) I
end
section
variable {ds:List Deferred}{P:Program}{Q:Exit->Act->World->Prop}
def Jl{c:Code}(J:Nat->Act->World->Prop){m:Nat}{a:Act}{w:World}(r:J m a w)
  (round:∀m a w,J m a w->c.wp P (Exit.then (λa' w'=>∃t,t<m/\J t a' w') Q) a w):(Code.loop c).wp P Q a w:=by
 intro b k u;have y:∀n a w,J n a w->∃e a' w',Q e a' w'/\Arrives P (lone (b.at a (.code c::.inLoop c::k)) u w) b k u e a' w':=by
  intro n
  induction n using Nat.strongRecOn with
  | _ n A=>
   intro a w z;have⟨e,f,g,i,d⟩:=round n a w z b (.inLoop c::k) u;cases e with
   | normal=>
    have⟨t,v,j⟩:=i;have⟨q,p,s,o,h⟩:=A t v f g j;exact⟨q,p,s,o,.of_steps (Steps.trans d<|.one step_inLoop) h⟩
   | exit id=>exact⟨_,f,g,i,.pass (x:=.inLoop c) rfl (λ_ _=>.inl Wc) d⟩
   | goto l=>exact⟨_,f,g,i,.pass (x:=.inLoop c) rfl (λ_ _=>.inl Wc) d⟩
   | ret=>exact⟨_,f,g,i,.pass (x:=.inLoop c) rfl (λ_ _=>.inl Wc) d⟩
   | panic ch=>exact⟨_,f,g,i,.pass (x:=.inLoop c) rfl (λ_ _=>.inl Wc) d⟩
   | outgrown=>exact⟨_,f,g,i,.pass (x:=.inLoop c) rfl (λ_ _=>.inl Wc) d⟩
 have⟨e,a',w',i,d⟩:=y _ a w r;exact⟨e,a',w',i,.of_steps (.one step_loop) d⟩
variable {callA:CallR}{base lo n:Nat}
def mH(P:Program)(callA:CallR)(base:Nat):Prop:=
 (∀(lo:Nat) (Q:Exit->Act->World->Prop) (id nt:Nat) (ops:List Oper) (ds:List Deferred) (φ:Map) (H:Heap) (w:World) (T:Raw) (a:Act),base<=lo->lo<=H.length->opsOK P nt ops=true->gN P ops=true ->
  Tmps ds φ nt T a->HRel φ base P.globals.size H w->∀T' H',bg P callA.ret lo ops (bq P ops true) (du P ops true) T H=some (T',H')->oV P ops true T' ->
  (∀a' w' φ',Tmps ds φ' nt T' a'->Eff φ base P.globals.size lo H w φ' H' w'->Q .normal a' w')->(Code.region id ops.toArray true).wp P Q a w) /\
 (∀(lo:Nat) (Q:Exit->Act->World->Prop) (id nt:Nat) (ops:List Oper) (ds:List Deferred) (φ:Map) (H:Heap) (w:World) (T:Raw) (a:Act),base<=lo->lo<=H.length->opsOK P nt ops=true->gN P ops=true ->
  Tmps ds φ nt T a->HRel φ base P.globals.size H w->∀p T' H',Dl P callA lo ops true T H p T' H' ->
  (∀a' w' φ' cv,Tmps ds φ' nt T' a'->Eff φ base P.globals.size lo H w φ' H' w'->VRel φ' p cv->Q (.panic [pe cv]) a' w')->(Code.region id ops.toArray true).wp P Q a w)
def jA:Ex->Exit
 | .normal=>.normal
 | .exit i=>if bM<=i then .goto (i-bM) else .exit i
 | .ret=>.ret
theorem iO{i:Nat}(h:i<bM):jA (.exit i)=.exit i:=if_neg byO
theorem nQ{i:Nat}(h:bM<=i):jA (.exit i)=.goto (i-bM):=if_pos h
def F4{K:Act->World->Prop}{Q:Exit->Act->World->Prop}{i:Nat}{a:Act}{w:World}(h:Q (jA<|.exit i) a w):Exit.then K Q (jA<|.exit i) a w:=by
 unfold jA at *;simp only at *;split at h
 next e=>rw[if_pos e];exact h
 next e=>rw[if_neg e];exact h
def P0(J:Nat->Act->World->Prop)(Q:Exit->Act->World->Prop):Exit->Act->World->Prop
 | .goto l,a,w=>J l a w
 | e,a,w=>Q e a w
def kH{J:Nat->Act->World->Prop}{Q:Exit->Act->World->Prop}{e:Exit}{a:Act}{w:World}(h:Q e a w)(b:∀l,e≠.goto l):P0 J Q e a w:=by
 cases e with
 | goto l=>simp_all
 | _=>exact h
def yg{c:Code}(J:Nat->Nat->Act->World->Prop){a:Act}{w:World}
  (t:c.wp P (P0 (λl a' w'=>∃m,J m l a' w') Q) a w)
  (x:∀m l a w,J m l a w->∃rest,findLabel c l=some rest/\rest.wp P (P0 (λl' a' w'=>∃D,D<m/\J D l' a' w') Q) a w):(Code.scope c).wp P Q a w:=by
 intro b k z;have C:∀n l a w,J n l a w->∃r e a' w',gotoIn l (.inScope c::k)=some (.code r::.inScope c::k)/\Q e a' w'/\Arrives P (lone (b.at a (.code r::.inScope c::k)) z w) b k z e a' w':=by
  intro n
  induction n using Nat.strongRecOn with
  | _ n I=>
   intro l a w F;have⟨r,K,H⟩:=x n l a w F;have v:gotoIn l (.inScope c::k)=some (.code r::.inScope c::k):=by grind[gotoIn]
   have⟨e,d,g,o,f⟩:=H b (.inScope c::k) z;cases e with
   | normal=>exact⟨r,.normal,d,g,v,o,Steps.trans f<|.one step_inScope⟩
   | exit id=>exact⟨r,.exit id,d,g,v,o,λB G=>f B Xf⟩
   | goto l'=>
    have⟨D,A,u⟩:=o;have⟨y,q,p,s,i,j,h⟩:=I _ A l' d g u;exact⟨r,q,p,s,v,j,.of_steps (f _ i) h⟩
   | ret=>exact⟨r,_,d,g,v,o,f⟩
   | panic ch=>exact⟨r,_,d,g,v,o,f⟩
   | outgrown=>exact⟨r,_,d,g,v,o,f⟩
 have⟨e,d,g,o,f⟩:=t b (.inScope c::k) z
 cases e with
 | normal=>exact⟨.normal,d,g,o,.head step_scope<|Steps.trans f<|.one step_inScope⟩
 | exit id=>exact⟨.exit id,d,g,o,λB G=>.head step_scope<|f B Xf⟩
 | goto l'=>
  have⟨m,u⟩:=o;have⟨y,q,p,s,i,j,h⟩:=C m l' d g u;exact⟨q,p,s,j,.of_steps (.head step_scope<|f _ i) h⟩
 | ret=>exact⟨_,d,g,o,.of_steps (.one step_scope) f⟩
 | panic ch=>exact⟨_,d,g,o,.of_steps (.one step_scope) f⟩
 | outgrown=>exact⟨_,d,g,o,.of_steps (.one step_scope) f⟩
def KOK(P:Program)(base lo nt:Nat)(tr:XN)(ds:List Deferred)(Q:Exit->Act->World->Prop)(φ:Map)(H:Heap)(w:World)(ex:Ex)(S':XV)(H':Heap):Prop:=
 (ex≠.exit bN->∀a' w' φ' T',dH tr S' T'->Tmps ds φ' nt T' a'->Eff φ base P.globals.size lo H w φ' H' w'->Q (jA ex) a' w') /\
 (∀p S1,ex=.exit bN->S'=p::S1->∀a' w' φ' T' cv,dH tr S1 T'->Tmps ds φ' nt T' a'->Eff φ base P.globals.size lo H w φ' H' w'->VRel φ' p cv->Q (.panic [pe cv]) a' w')
theorem KOK.step{m:Nat}{tr:XN}{φ b:Map}{H i:Heap}{w o:World}{k:Ex}{j:XV}{H':Heap}(l:KOK P base lo m tr ds Q φ H w k j H')(e:Eff φ base P.globals.size lo H w b i o):KOK P base lo m tr ds Q b i o k j H':=
 ⟨λh a' w' a c d f g=>l.1 h a' w' a c d f<|Eff.trans e g,λp q t u a' w' a c r d f g s=>l.2 p q t u a' w' a c r d f (Eff.trans e g) s⟩
theorem KOK.normal{d:Nat}{tr:XN}{φ:Map}{H:Heap}{w:World}{b:XV}{H':Heap}(h:∀a' w' a c,dH tr b c->Tmps ds a d c a'->Eff φ base P.globals.size lo H w a H' w'->Q .normal a' w'):KOK P base lo d tr ds Q φ H w .normal b H':=
 ⟨λ_=>h,λ_ _ e=>by cases e⟩
theorem KOK.imp{f:Exit->Act->World->Prop}{m:Nat}{tr:XN}{φ:Map}{H:Heap}{w:World}{d:Ex}{k:XV}{H':Heap}(l:KOK P base lo m tr ds Q φ H w d k H')
  (r:d≠.exit bN->∀a w,Q (jA d) a w->f (jA d) a w) (s:∀c a w,Q (.panic c) a w->f (.panic c) a w):KOK P base lo m tr ds f φ H w d k H':=
 ⟨λe a' w' b g h i j=>r e _ _<|l.1 e a' w' b g h i j,λp o t u a' w' b g q h i j v=>s _ _ _<|l.2 p o t u a' w' b g q h i j v⟩
theorem KOK.then{K:Act->World->Prop}{d:Nat}{tr:XN}{φ:Map}{H:Heap}{w:World}{b:Ex}{c:XV}{H':Heap}(e:KOK P base lo d tr ds Q φ H w b c H')(f:b≠.normal):KOK P base lo d tr ds (Exit.then K Q) φ H w b c H':=
 e.imp (λ_ a w h=>by
  cases b with
  | normal=>simp_all
  | exit i=>exact F4 h
  | ret=>exact h) λ_ _ _ h=>h
def Ah(P:Program)(callA:CallR)(base lo nt:Nat)(tr:XN)(n:Nat)(c:Code)(st:Stm):Prop:=
 ∀(ds:List Deferred) (Q:Exit->Act->World->Prop) (φ:Map) (H:Heap) (w:World) (T:Raw) (a:Act) (S:XV),dH tr S T->Tmps ds φ nt T a ->
   HRel φ base P.globals.size H w->lo<=H.length->∀ex S' H',exec callA lo n st S H=some (ex,S',H') ->
   KOK P base lo nt tr ds Q φ H w ex S' H'->c.wp P Q a w
theorem FT{tr:XN}{h:Nat}:Ah P callA base lo h tr n .skip .skip:=by intro ds Q φ H w T a S d e b f j i H' g c;obtain⟨rfl,rfl,rfl⟩:=g;exact wp_skip<|c.1 Wc a w φ T d e<|Eff.refl b
theorem JX{tr:XN}{h:Nat}{x y:Code}{x' s:Stm}(c:Ah P callA base lo h tr n x x')(f:Ah P callA base lo h tr n y s):Ah P callA base lo h tr n (.seq x y)<|.seq x' s:=by
 intro ds Q φ H w T a S q r o b m k H' d p;apply wp_seq;simp[exec]at d;split at d
 next l j v=>
  exact c ds _ φ H w T a S q r o b .normal l j v (KOK.normal λu B i t z A g=>
   f ds Q i j B t u l z A g.rel (Nat.le_trans b g.keeps.1) m k H' d<|p.step g)
 .exact c ds _ φ H w T a S q r o b m k H' d (p.then λe=>by simp_all)
def mI(ls:List<|Nat×Stm):Stm:=ls.foldr (λx r=>.alt x.1 x.2 r) Nu
theorem vn{l:Nat}{S:XV}{H:Heap}:∀(a:List<|Nat×Stm),exec callA lo n (mI a) (.int .i64 ((l:Nat):Int)::S) H=match a.find? (λx=>x.1==l)with
  | some x=>exec callA lo n x.2 S H
  | none=>none
 | []=>rfl
 | (l',s)::a=>by
  show exec callA lo n (.alt l' s<|mI a) (.int .i64 ((l:Nat):Int)::S) H=_;simp[exec,List.find?_cons];by_cases h:l'=l
  .simp_all
  .have b:(l'==l)=false:=beq_eq_false_iff_ne.2 h
   have c:¬ ((l:Nat):Int)=((l':Nat):Int):=byO;rw[b,if_neg c];exact vn a
def oq{tr:XN}{k K:Nat}(f:∀c:Code,SizeOf.sizeOf c<K->∀st,bF P tr c=some st->b7 P k c=true->Ah P callA base lo k tr n c st) :
  ∀(c:Code),SizeOf.sizeOf c<K->∀d,dI P tr c=some d->b7 P k c=true->∀l,match d.find? (λx=>x.1==l)with
   | some x=>∃rest,findLabel c l=some rest/\Ah P callA base lo k tr n rest x.2
   | none=>findLabel c l=none
 | .seq x y,s,d,a,b,l=>by
  simp only[dI]at a;simp[b7,ac₀]at b;simp at s;split at a
  next q g o=>
   have e:=oq f x byO [] g b.1 l;have m:=oq f y byO q o b.2 l;grind[findLabel]
  next A p q g o=>
   split at a
   next r t=>
    generalize A::p=j at g a;have e:=oq f x byO j g b.1 l;have m:=oq f y byO q o b.2 l;cases i:j.find? (λx=>x.1==l)with
    | some z=>
     have:j.find? ((λx=>x.1==l) ∘ λx=>(x.1,Stm.seq x.2 r))=some z:=i;grind[findLabel,JX]
    | none=>
     grind[findLabel]
   .grind
  .grind
 | .label l',s,d,a,b,l=>by
  simp[dI]at a;subst a;simp only[findLabel];by_cases h:(l'==l)=true
  .simp_all[FT]
  grind
 | .region _ _ _,_,d,a,_,l=>by simp[dI]at a;subst a;rfl
 | .cond _ _ _,_,d,a,_,l=>by simp[dI]at a;subst a;rfl
 | .block _ _,_,d,a,_,l=>by simp[dI]at a;subst a;rfl
 | .loop _,_,d,a,_,l=>by simp[dI]at a;subst a;rfl
 | .exit _,_,d,a,_,l=>by simp[dI]at a;subst a;rfl
 | .ret,_,d,a,_,l=>by simp[dI]at a;subst a;rfl
 | .skip,_,d,a,_,l=>by simp[dI]at a;subst a;rfl
 | .goto _,_,d,a,_,l=>by simp[dI]at a;subst a;rfl
 | .scope _,_,d,a,_,l=>by simp[dI]at a
 | .rangeFunc _ _ _ _,_,d,a,_,l=>by simp[dI]at a
 | .refuse _,_,d,a,_,l=>by simp[dI]at a
def gQ{a:Nat}{ops:List Oper}(h:opsOK P a ops=true):∀o ∈ ops,(∀d,o.dst=some d->d<a)/\∀x ∈ (resolve P o.op).2,kv P.globals.size x=true:=by
 intro o b;have:=List.all_eq_true.1 h o b
 grind
def w9(c:gM P base P.globals.size callA.ret)(e:mH P callA base)(g:base<=lo){id j:Nat}{ops:Array Oper}{draw:Bool}{φ:Map}{H:Heap}{w:World}{T:Raw}{a:Act}(h:lo<=H.length)
  (b:opsOK P j ops.toList=true) (k:draw=true->gN P ops.toList=true) (o:Tmps ds φ j T a) (l:HRel φ base P.globals.size H w) {f:Raw} {H':Heap}
  (p:bg P callA.ret lo ops.toList (bq P ops.toList draw) (du P ops.toList draw) T H=some (f,H')) (d:oV P ops.toList draw f)
  (m:∀a' w' i,Tmps ds i j f a'->Eff φ base P.globals.size lo H w i H' w'->Q .normal a' w'):(Code.region id ops draw).wp P Q a w:=by
 cases draw
 .apply wp_region
  have:=Qw (Q:=Q) c g (gQ b) (du P ops.toList false) φ H w T a h o l f H' p m
  assumption
 .have:=e.1 lo Q id j ops.toList ds φ H w T a g h b (k rfl) o l f H' p d m
  omega
def u0(c:gM P base P.globals.size callA.ret)(i:sS P base P.globals.size callA.pan)(d:mH P callA base)(f:base<=lo){id k:Nat}{ops:Array Oper}{draw:Bool}{φ:Map}{H:Heap}{w:World}{T:Raw}{a:Act}(g:lo<=H.length)
  (b:opsOK P k ops.toList=true) (m:draw=true->gN P ops.toList=true) (s:Tmps ds φ k T a) (q:HRel φ base P.globals.size H w) {p:Value} {l:Raw} {H':Heap}
  (j:Dl P callA lo ops.toList draw T H p l H')
  (r:∀a' w' e o,Tmps ds e k l a'->Eff φ base P.globals.size lo H w e H' w'->VRel e p o->Q (.panic [pe o]) a' w'):(Code.region id ops draw).wp P Q a w:=by
 cases draw
 .rcases j with ⟨_,j⟩|⟨h,_⟩
  .apply wp_region
   have:=MI (Q:=Q) c i f (gQ b) _ g s q j r
   assumption
  .cases h
 .have:=d.2 lo Q id k ops.toList ds φ H w T a f g b (m rfl) s q p l H' j r
  omega
def lR{φ:Map}{e:Nat}{T:Raw}{a:Act}(d:Tmps ds φ e T a){c:Operand}{b:Bool}(h:ah T c=.bool b):a.eval c=.bool b:=by
 cases c with
 | tmp t=>
  have:=d.rel t;simp[ah]at h;rw[h]at this;show a.tmps.getD t undef=_;generalize a.tmps.getD t undef=c at this;cases this;rfl
 | const v=>exact h
 | global g=>assumption
 | func f=>assumption
def nN(U:gM P base P.globals.size callA.ret)(l0:sS P base P.globals.size callA.pan)(V:mH P callA base)(h0:base<=lo){tr:XN}(j0:Nd tr){nt:Nat} :
  ∀(k:Nat) (c:Code),SizeOf.sizeOf c<k->∀st,bF P tr c=some st->b7 P nt c=true->∀(ds:List Deferred) (Q:Exit->Act->World->Prop) (φ:Map) (H:Heap) (w:World) (T:Raw) (a:Act) (S:XV),dH tr S T->Tmps ds φ nt T a ->
   HRel φ base P.globals.size H w->lo<=H.length->∀A D H',exec callA lo n st S H=some (A,D,H') ->
   KOK P base lo nt tr ds Q φ H w A D H'->c.wp P Q a w:=by
 intro k
 induction k with
 | zero=>intro c hk;omega
 | succ k ih=>
 intro c hk st q g ds Q φ H w T a S N L O s A D H' f B;have a0:∀(id:Nat) (ops:Array Oper) (draw:Bool) (cd:Operand) (x y:Code) (l:List Stm) (e:E) (x' y':Stm),gq P tr ops.toList draw cd=some (l,e)->bF P tr x=some x'->bF P tr y=some y'->SizeOf.sizeOf x<k->SizeOf.sizeOf y<k ->
   opsOK P nt ops.toList=true->b7 P nt x=true->b7 P nt y=true->∀(Q:Exit->Act->World->Prop) (A:Ex) (D:XV) (H':Heap),exec callA lo n (ez<|l++[.cond e x' y']) S H=some (A,D,H') ->
   KOK P base lo nt tr ds Q φ H w A D H'->∀(Qr:Exit->Act->World->Prop),(∀t u,(Code.cond cd x y).wp P Q t u->Qr .normal t u)->(∀c t u,Q (.panic c) t u->Qr (.panic c) t u)->(Code.region id ops draw).wp P Qr a w:=by
  intro id ops draw cd x y l e x' y' o0 y0 z0 Y0 Z0 W T0 X0 Q A D H' f B Qr w0 s0;rcases mE (Au j0 o0 N) f with ⟨z,C,g1,g2⟩|⟨rfl,p,z,rfl,hP⟩;rotate_left
  .have⟨b0,G,f1,f2⟩:=Gi j0 o0 N hP
   exact u0 U l0 V h0 s W b0 L O f2 λt u d cv M X h3=>s0 _ _ _<|B.2 p z rfl rfl t u d G cv f1 M X h3
  simp[exec]at g2;cases hv:ev1 z C e with
  | none=>rw[hv]at g2;grind
  | some v=>
  have⟨b0,G,f1,f2,f3,f4⟩:=Gj j0 o0 N g1 hv;refine w9 U V h0 s W b0 L O f1 f3 λt u d g0 F=>?_;rw[hv]at g2;apply w0 t u;split at g2
  next R=>
   simp at R;subst R;exact wp_cond_true (lR g0 f4)<|ih x Y0 x' y0 T0 ds Q d C u G t z f2 g0 F.rel (Nat.le_trans s F.keeps.1) A D H' g2<|B.step F
  next R=>
   simp at R;subst R;exact wp_cond_false (lR g0 f4)<|ih y Z0 y' z0 X0 ds Q d C u G t z f2 g0 F.rel (Nat.le_trans s F.keeps.1) A D H' g2<|B.step F
  .grind
 unfold bF at q;split at q
 .
  simp at q;subst q;simp[exec]at f;obtain⟨rfl,rfl,rfl⟩:=f;exact wp_skip<|B.1 Wc a w φ T N L<|Eff.refl O
 .
  rename_i id ops draw;simp[aa₀]at q;obtain⟨l,hl,rfl⟩:=q;have W:opsOK P nt ops.toList=true:=Xs
  rcases l7 j0 hl N f with ⟨rfl,b0,T',f1,f2,f3⟩|⟨rfl,b0,p,z,T',rfl,f1,f2⟩
  .exact w9 U V h0 s W b0 L O f1 f3 (λa' w' j1 M X=>B.1 Wc a' w' j1 T' f2 M X)
  .exact u0 U l0 V h0 s W b0 L O f2 λt u d cv M X h3=>B.2 p z rfl rfl t u d T' cv f1 M X h3
 .
  rename_i id ops draw cd x y;split at q
  next l e x' y' M X h3=>
   simp at q;subst q;simp[b7,ac₀]at g;simp at hk;exact wp_seq<|a0 id ops draw cd x y l e x' y' M X h3 byO byO g.1 g.2.1 g.2.2 Q A D H' f B _ (λt u h=>h) λ_ _ _ h=>h
  .grind
 .
  rename_i id ops draw cd x y r;split at q
  next l e x' y' r' M X h3 h4=>
   simp at q;subst q;simp[b7,ac₀]at g;simp at hk;apply wp_seq;simp[exec]at f;split at f
   next z C Y=>
    refine a0 id ops draw cd x y l e x' y' M X h3 byO byO g.1 g.2.1.1 g.2.1.2 (Exit.then (r.wp P Q) Q) .normal z C Y (KOK.normal λt u d G k1 k2 I=>?_) _ (λt u h=>wp_seq h) λ_ _ _ h=>h;exact ih r byO r' h4 g.2.2 ds Q d C u G t z k1 k2 I.rel (Nat.le_trans s I.keeps.1) A D H' f<|B.step I
   next K=>
    exact a0 id ops draw cd x y l e x' y' M X h3 byO byO g.1 g.2.1.1 g.2.1.2 (Exit.then (r.wp P Q) Q) A D H' f (B.then λe=>by subst e;exact K _ _ f) _ (λt u h=>wp_seq h) λ_ _ _ h=>h
  .grind
 .
  rename_i x y _ _;split at q
  next x' y' M X=>
   simp at q;subst q;simp[b7,ac₀]at g;simp at hk;apply wp_seq;simp[exec]at f;split at f
   next z C Y=>
    exact ih x byO x' M g.1 ds _ φ H w T a S N L O s .normal z C Y (KOK.normal λt u d G k1 k2 I=>
     ih y byO y' X g.2 ds Q d C u G t z k1 k2 I.rel (Nat.le_trans s I.keeps.1) A D H' f<|B.step I)
   next K=>
    exact ih x byO x' M g.1 ds _ φ H w T a S N L O s A D H' f (B.then λe=>by subst e;exact K _ _ f)
  .grind
 .
  rename_i cd x y;split at q
  next e x' y' M X h3=>
   simp at q;subst q;simp[b7,ac₀]at g;simp at hk;have he:=nZ (H:=H) N M;simp[exec,he]at f;split at f
   next R=>
    simp at R;exact wp_cond_true (lR L R)<|ih x byO x' X g.1 ds Q φ H w T a S N L O s A D H' f B
   next R=>
    simp at R;exact wp_cond_false (lR L R)<|ih y byO y' h3 g.2 ds Q φ H w T a S N L O s A D H' f B
   .grind
  .grind
 .
  rename_i i b;split at q
  case isFalse=>simp at q
  rename_i H0;simp[aa₀]at q;obtain⟨b',R,rfl⟩:=q;simp at hk;apply wp_block;have q0:∀c a w,Q (.panic c) a w->Exit.inBlock i Q (.panic c) a w:=λ_ _ _ h=>h;simp[exec]at f;split at f
  next j z C Y=>
   split at f
   next hj=>
    simp at f;obtain⟨rfl,rfl,rfl⟩:=f;refine ih b byO b' R Xs ds _ φ H w T a S N L O s (.exit j) _ _ Y ⟨λ_ t u d G k1 k2 I=>?_,λp S2 e=>by cases e;unfold bN at *;omega⟩;have:=B.1 Wc t u d G k1 k2 I;rw[iO (by unfold bN bM at *;omega)];simpa[jA,Exit.inBlock,hj]using this
   next hj=>
    simp at f;obtain⟨rfl,rfl,rfl⟩:=f;refine ih b byO b' R Xs ds _ φ H w T a S N L O s (.exit j) _ _ Y<|B.imp (λ_ t u this=>?_) q0;by_cases hg:bM<=j
    .rw[nQ hg]at this ⊢
     exact this
    .rw[iO byO]at this ⊢
     simpa[Exit.inBlock,hj]using this
  next K=>
   refine ih b byO b' R Xs ds _ φ H w T a S N L O s A D H' f<|B.imp (λ_ t u this=>?_) q0;cases A with
   | normal=>exact this
   | exit i=>exact absurd f<|K _ _ _
   | ret=>exact this
 .
  rename_i b;simp[aa₀]at q;obtain⟨b',R,rfl⟩:=q;simp at hk;simp[exec]at f;apply Jl (λm t u=>∃z C d G,iter (exec callA lo n b') m z C=some (A,D,H')/\dH tr z G/\Tmps ds d nt G t/\Eff φ base P.globals.size lo H w d C u) ⟨S,H,φ,T,f,N,L,Eff.refl O⟩;rintro m t u ⟨z,C,d,G,c0,k1,k2,I⟩;cases m with
  | zero=>simp[iter]at c0
  | succ m=>
   simp[iter]at c0;split at c0
   next S2 H2 Y=>
    exact ih b byO b' R Xs ds _ d C u G t z k1 k2 I.rel (Nat.le_trans s I.keeps.1) .normal S2 H2 Y
     (KOK.normal λa2 w2 e0 T2 q1 q2 q3=>⟨m,byO,S2,H2,e0,T2,c0,q1,q2,Eff.trans I q3⟩)
   next K=>
    exact ih b byO b' R Xs ds _ d C u G t z k1 k2 I.rel (Nat.le_trans s I.keeps.1) A D H' c0 ((B.step I).then λe=>by subst e;exact K _ _ c0)
 .
  split at q
  case isFalse=>simp at q
  rename_i H0;simp at q;subst q;simp[exec]at f;obtain⟨rfl,rfl,rfl⟩:=f;have:=B.1 Wr a w φ T N L<|Eff.refl O;rw[iO (by unfold bN bM at *;omega)]at this;exact wp_exit this
 .
  simp at q;subst q;simp[exec]at f;obtain⟨rfl,rfl,rfl⟩:=f;exact wp_ret<|B.1 Wc a w φ T N L<|Eff.refl O
 .
  simp at q;subst q;simp[exec]at f;obtain⟨rfl,rfl,rfl⟩:=f;exact wp_label<|B.1 Wc a w φ T N L<|Eff.refl O
 .
  rename_i l;simp at q;subst q;simp[exec]at f;obtain⟨rfl,rfl,rfl⟩:=f;have:=B.1 (by simp;unfold bN bM;omega) a w φ T N L<|Eff.refl O;rw[nQ byO,Nat.add_sub_cancel_left]at this;exact wp_goto this
 .
  rename_i b;split at q
  next b' ls R S0=>
   simp at q;subst q;simp at hk;have r0:b7 P nt b=true:=Xs
   have b1:∀c:Code,SizeOf.sizeOf c<k->∀st,bF P tr c=some st->b7 P nt c=true->Ah P callA base lo nt tr n c st:=λc hk st M X ds Q φ H w T a S N L O s A D H' f B=>ih c hk st M X ds Q φ H w T a S N L O s A D H' f B;have x0:=oq b1 b byO ls S0 r0;have f:hop (exec callA lo n<|mI ls) n (exec callA lo n b' S H)=some (A,D,H'):=f;apply yg (λm l t u=>∃z C d G,hop (exec callA lo n<|mI ls) m (exec callA lo n (mI ls) (.int .i64 ((l:Nat):Int)::z) C)=some (A,D,H')/\dH tr z G/\Tmps ds d nt G t/\Eff φ base P.globals.size lo H w d C u)
   .cases Y:exec callA lo n b' S H with
    | none=>rw[Y]at f;cases n<;>simp[hop]at f
    | some o=>
     have⟨J,z,C⟩:=o;rw[Y]at f;refine ih b byO b' R r0 ds _ φ H w T a S N L O s J z C Y ⟨λK t u d G k1 k2 I=>?_,λp S2 e1 e2 t u d G cv k1 k2 I k4=>?_⟩;rotate_left
     .have:(J,z,C)=(A,D,H'):=by subst e1;cases n<;>simpa[hop,bN,bM]using f
      cases this;exact kH (B.2 p S2 e1 e2 t u d G cv k1 k2 I k4) (λl h=>by cases h)
     have Z:∀{e:Exit},(J,z,C)=(A,D,H')->jA J=e->Q e t u:=λ{e} he M=>by
      cases he;have:=B.1 K t u d G k1 k2 I;rw[M]at this;exact this
     cases J with
     | normal=>exact kH (Z (by cases n<;>simpa[hop]using f) rfl) (λl h=>by cases h)
     | ret=>exact kH (Z (by cases n<;>simpa[hop]using f) rfl) (λl h=>by cases h)
     | exit j=>
      by_cases hg:bM<=j
      .rw[nQ hg]
       cases n with
       | zero=>simp[hop,hg]at f
       | succ n'=>
        simp[hop,if_pos hg]at f;exact⟨n',z,C,d,G,f,k1,k2,I⟩
      .rw[iO byO]
       exact kH (Z (e:=.exit j) (by cases n<;>simpa[hop,hg]using f)<|iO byO) (λl h=>by cases h)
   .rintro m l t u ⟨z,C,d,G,hh,k1,k2,I⟩
    rw[vn]at hh;have hl:=x0 l;cases hf:ls.find? (λx=>x.1==l)with
    | none=>rw[hf]at hh;cases m<;>simp[hop]at hh
    | some x=>
     rw[hf]at hh hl;have⟨rest,r1,r2⟩:=hl;refine⟨rest,r1,?_⟩;simp only at hh;cases Y:exec callA lo n x.2 z C with
     | none=>rw[Y]at hh;cases m<;>simp[hop]at hh
     | some o=>
      have⟨J,S2,H2⟩:=o;rw[Y]at hh;refine r2 ds _ d C u G t z k1 k2 I.rel (Nat.le_trans s I.keeps.1) J S2 H2 Y ⟨λK a2 w2 e0 T2 q1 q2 q3=>?_,λp S3 e1 e2 a2 w2 e0 T2 cv q1 q2 q3 q4=>?_⟩;rotate_left
      .have:(J,S2,H2)=(A,D,H'):=by subst e1;cases m<;>simpa[hop,bN,bM]using hh
       cases this;exact kH (B.2 p S3 e1 e2 a2 w2 e0 T2 cv q1 q2 (Eff.trans I q3) q4) (λl h=>by cases h)
      have q3:=Eff.trans I q3;have Z:∀{e:Exit},(J,S2,H2)=(A,D,H')->jA J=e->Q e a2 w2:=λ{e} he M=>by
       cases he;have:=B.1 K a2 w2 e0 T2 q1 q2 q3;rw[M]at this;exact this
      cases J with
      | normal=>exact kH (Z (by cases m<;>simpa[hop]using hh) rfl) (λl h=>by cases h)
      | ret=>exact kH (Z (by cases m<;>simpa[hop]using hh) rfl) (λl h=>by cases h)
      | exit j=>
       by_cases hg:bM<=j
       .rw[nQ hg]
        cases m with
        | zero=>simp[hop,hg]at hh
        | succ m'=>
         simp[hop,if_pos hg]at hh;exact⟨m',byO,S2,H2,e0,T2,hh,q1,q2,q3⟩
       .rw[iO byO]
        exact kH (Z (e:=.exit j) (by cases m<;>simpa[hop,hg]using hh)<|iO byO) (λl h=>by cases h)
  .grind
 .grind
 .grind
end
section
variable {ds:List Deferred}{P:Program}{base lo n:Nat}
def xF(P:Program)(f:FuncId)(n:Nat)(g:XV->Heap->Option Value):Prop:=
 (∃ fn, P.funcs[f]? = some fn ∧ fn.body.isSome = true ∧ fn.name ≠ "runtime.NumGoroutine") ∧
 ∀base args H v,args.length=n->g args H=some v->∀φ w cargs,HRel φ base P.globals.size H w->LRel φ args cargs ->
  Calls P f cargs.toArray w fun e w'=>∃cv φ',e=.returned cv/\VRel φ' v cv/\Eff φ base P.globals.size H.length H w φ' H w'
def je(P:Program)(cp:Wl):Prop:=∀f cf,cp f=some cf->(∃tr,aD P tr f=some cf)\/∃g,xF P f cf.np g/\(cf.kind=.prim g\/cf.kind=.plain/\∀n lo args H r H',args.length=cf.np->run cp (n+1) lo f args H=some (r,H')->∃v,r=.inl v/\H'=H/\g args H=some v)
theorem mn:∀{tr:XN},nodup tr=true->Nd tr
 | [],_=>λi j t h=>by simp at h
 | x::r,h=>by
  simp[nodup,ac₀]at h;intro i j t a b;cases i with
  | zero=>
   grind
  | succ i=>
   cases j with
   | zero=>grind
   | succ j=>rw[mn h.2 i j t a b]
def Bg{tr:XN}{φ:Map}{G J:Nat}{H:Heap}{w:World}{T:Raw}{a:Act}{S:XV}(k:dH tr S T)(o:Tmps ds φ J T a)(q:HRel φ base G H w) :
  ∀{p:List ResultVar} {g:List E} {vs:XV},jM P tr p=some g->evList S H g=some vs ->
   ∃f,LRel φ vs f/\(p.mapM (λ| .tmp t=>pure (a.tmps.getD t undef) | .cell x t=>do loadVar t (<-asAddr<|a.tmps.getD x undef):ResultVar->Sem Value)).run P w=.ok f w
 | [],g,vs,h,b=>by
  simp_all[jM,evList,LRel.nil]
 | .tmp t::p,g,vs,h,b=>by
  simp[jM]at h;split at h
  next j l s u=>
   simp at h;subst h;simp[evList]at b;split at b
   next v r=>
    split at b
    next z e=>
     have⟨f,B,C⟩:=Bg k o q u e;have:v=T t:=by
      have:=k.2 j t<|dS s
      grind[ev1,ev]
     grind[LRel.cons,Sem.run_bind,Sem.run_pure,Result.andThen_ok,Tmps.rel]
    .grind
   .grind
  .grind
 | .cell x t::p,g,vs,h,b=>by
  simp[jM]at h;split at h
  next j agg m l s i I u=>
   simp at h;subst h;simp[evList]at b;split at b
   next v r=>
    split at b
    next z e=>
     simp at b;subst b;have⟨f,B,C⟩:=Bg k o q u e;have K:=k.2 j x<|dS s;have d:aG (.ld m agg) [T x] H=some v:=by
      grind[ev1,ev]
     have⟨A,D,F⟩:=Ct (P:=P) q.crel i I (o.rel x) d;refine⟨A::f,LRel.cons F B,?_⟩;have:(do loadVar t (<-asAddr<|a.tmps.getD x undef):Sem Value).run P w=.ok A w:=by
      have y:=o.rel x;generalize a.tmps.getD x undef=c at D y ⊢;generalize T x=L at y d;cases y<;>simp[aG]at d<;>try (simp at d)
      assumption
     grind[Sem.run_bind,Result.andThen_ok,Sem.run_pure]
    .grind
   .grind
  .grind
def yO{φ:Map}{vs a:XV}(h:LRel φ vs a):VRel φ (aR vs) (if h:a.toArray.size=1 then a.toArray[0] else .tuple a.toArray):=by
 by_cases c:vs.length=1
 .grind[List.length_eq_one_iff,aR,LRel.of_cons,LRel.of_nil]
 .have b:=h.1
  have e:aR vs=.tuple vs.toArray:=by
   unfold aR
   grind
  rw[e,dif_neg Wr];exact .tuple _ _ (by simp[b]) (by simpa using h.2)
def Ends(φ:Map):Value ⊕ Value->Value->Ending->Prop
 | .inl v,cv,e=>e=.returned cv/\VRel φ v cv
 | .inr v,cv,e=>e=.panicked [pe cv]/\VRel φ v cv
def RunOK(P:Program)(base G:Nat)(c:CallR):Prop:=
 ∀lo f args H r H',base<=lo->lo<=H.length->c lo f args H=some (r,H') ->
  (∃ fn, P.funcs[f]? = some fn ∧ fn.body.isSome = true ∧ fn.name ≠ "runtime.NumGoroutine") ∧
  ∀φ w cargs,HRel φ base G H w->LRel φ args cargs->Calls P f cargs.toArray w fun e w'=>∃cv φ',Ends φ' r cv e/\Eff φ base G lo H w φ' H' w'
def yP{c:CallR}{lo:Nat}{f:FuncId}{args:XV}{H:Heap}{v:Value}{H':Heap}(h:c.ret lo f args H=some (v,H')):c lo f args H=some (.inl v,H'):=by grind[CallR.ret]
theorem uQ{c:CallR}{lo:Nat}{f:FuncId}{args:XV}{H:Heap}{v:Value}{H':Heap}(h:c.pan lo f args H=some (v,H')):c lo f args H=some (.inr v,H'):=by grind[CallR.pan]
theorem qG{c:CallR}{lo:Nat}{f:FuncId}{args:XV}{H:Heap}{v:Value}{H':Heap}(h:c lo f args H=some (.inl v,H')):c.ret lo f args H=some (v,H'):=by grind[CallR.ret]
theorem Ay{c:CallR}{lo:Nat}{f:FuncId}{args:XV}{H:Heap}{v:Value}{H':Heap}(h:c lo f args H=some (.inr v,H')):c.pan lo f args H=some (v,H'):=by grind[CallR.pan]
theorem RunOK.toRet{G:Nat}{c:CallR}(h:RunOK P base G c):gM P base G c.ret:=λlo f args H v H' i j k=>
 let ⟨a,b⟩:=h lo f args H _ H' i j (yP k)
 ⟨a,λφ w cargs l m=>(b φ w cargs l m).mono λ_ _ ⟨g,d,e,o⟩=>⟨g,d,e.1,o,e.2⟩⟩
theorem RunOK.toPan{G:Nat}{c:CallR}(h:RunOK P base G c):sS P base G c.pan:=λlo f args H v H' i j k=>
 let ⟨a,b⟩:=h lo f args H _ H' i j (uQ k)
 ⟨a,λφ w cargs l m=>(b φ w cargs l m).mono λ_ _ ⟨g,d,e,o⟩=>⟨g,d,e.1,o,e.2⟩⟩
def kM{tr:XN}{np:Nat}{args:XV}(g:args.length=np)(f:tr.take np=List.range np)(c4:np<=tr.length)(d:Nd tr) :
  dH tr (args++List.replicate (tr.length-np) undef) λt=>args.getD t undef:=by
 subst g;refine⟨Wr,λj t e=>?_⟩;have i:=(List.getElem?_eq_some_iff.1 e).1;by_cases b:j<args.length
 .have:tr[j]?=some j:=by
   have a:(tr.take args.length)[j]?=some j:=by rw[f,List.getElem?_range byO]
   rw[List.getElem?_take,if_pos byO]at a;exact a
  rw[e]at this;simp at this;subst this;rw[ax₀ b];simp[b]
 .have c:args.length<=t:=by
   refine Decidable.byContradiction λh=>?_;have a:tr[t]?=some t:=by
    have a:(tr.take args.length)[t]?=some t:=by rw[f,List.getElem?_range byO]
    rw[List.getElem?_take,if_pos byO]at a;exact a
   have:=d j t t e a;omega
  rw[aw₀ byO];simp[List.getElem?_replicate,c];omega
def ll{φ:Map}{c:Nat}{args cargs:XV}(a:LRel φ args cargs)(g:args.length<=c) :
  Tmps [] φ c (λt=>args.getD t undef) { tmps:=cargs.toArray++Array.replicate (c-cargs.toArray.size) undef,defers:=[] }:=by
 have e:cargs.length=args.length:=a.1.symm;refine⟨Wr,λt=>?_,rfl⟩;simp only[at₀];by_cases f:t<args.length
 .have b:args[t]?=some args[t]:=bc₀ f
  have d:cargs[t]?=some (cargs[t]'byO):=bc₀ byO;rw[Array.getElem?_append_left Wr];simp[au₀,b,aj₀,d,aq₀];exact a.2 t _ _ b d
 .have b:args[t]?=none:=av₀ byO
  rw[Array.getElem?_append_right Wr];simp only[au₀,b,Option.getD_none];have:((Array.replicate (c-cargs.toArray.size) undef)[t-cargs.toArray.size]?).getD undef=undef:=by
   rw[Array.getElem?_replicate];split<;>rfl
  rw[this];exact fu
def ob{tr:XN}{φ:Map}{k:Nat}{H:Heap}{w:World}{T:Raw}{a:Act}{S:XV}{fn:Func}{d:List E}{vs:XV}(i:dH tr S T)(j:Tmps ds φ k T a)(g:HRel φ base P.globals.size H w)
  (b:jM P tr fn.results.toList=some d) (c:evList S H d=some vs):∃v,(results fn a.tmps).run P w=.ok v w/\VRel φ (aR vs) v:=by have⟨l,e,f⟩:=Bg (P:=P) i j g b c;refine⟨_,?_,yO e⟩;unfold results;rw[Array.mapM_eq_mapM_toList];simp only[Sem.run_bind,Sem.run_map];apply Eq.trans (congrArg (λr:Result XV=>((r.andThen λa w'=>.ok a.toArray w').andThen λa w'=>(pure (if h:a.size=1 then a[0] else .tuple a):Sem Value).run P w')) f);rfl
inductive Comp (P:Program) (tr:XN) (fn:Func) (c:Code) (r:List E):CF->Prop where
 | plain (b:Stm) (h:bF P tr c=some b) (hc:b7 P fn.ntmps c=true):Comp P tr fn c r ⟨fn.params.size+fn.nfree,tr.length,r,b,.plain⟩
 | dfr (b:Stm) (id:Nat) (ops:Array Oper) (y:Code) (t j:Nat) (l:List Stm) (s:Stm) (h:sk P tr fn.ntmps c=some (b,id,ops,y)) (ht:kl ops.toList=some t) (hj:idxOf tr t=some j)
   (hl:gU P tr ops.toList.dropLast false=some l) (hs:bF P tr y=some s) (ho:opsOK P fn.ntmps ops.toList.dropLast=true) (hy:b7 P fn.ntmps y=true):Comp P tr fn c r ⟨fn.params.size+fn.nfree,tr.length,r,b,.dfr (ez l) j s⟩
 | rcv (id:Nat) (ops:Array Oper) (ops':List Oper) (t k:Nat) (rest:Code) (l:List Stm) (b:Stm) (h:KK c=some (id,ops,ops',t,rest)) (hk:idxOf tr t=some k) (hl:gU P tr ops' false=some l) (hb:bF P tr rest=some b)
   (ho:opsOK P fn.ntmps ops'=true) (hr:b7 P fn.ntmps rest=true) (he:fn.results.isEmpty=true) (hnp:fn.params.size+fn.nfree<=t):Comp P tr fn c r ⟨fn.params.size+fn.nfree,tr.length,[],.seq (ez l) b,.rcv k⟩
def oy {f : FuncId} {cf : CF} {tr : XN} (h : aD P tr f = some cf) : ∃ fn c r, P.funcs[f]? = some fn ∧ fn.body = some c ∧ fn.name ≠ "runtime.NumGoroutine" ∧ tr.take (fn.params.size + fn.nfree) = List.range (fn.params.size + fn.nfree) ∧ Nd tr ∧
  fn.params.size+fn.nfree<=tr.length/\fn.params.size+fn.nfree<=fn.ntmps/\(∀t ∈ tr,t<fn.ntmps)/\jM P tr fn.results.toList=some r/\Comp P tr fn c r cf:=by
 unfold aD at h;split at h<;>try (simp at h;done)
 rename_i fn p;split at h<;>try (simp at h;done)
 rename_i c d;simp only at h;split at h<;>try (simp at h;done)
 rename_i e;obtain⟨w,x,c3,c4,c5,z⟩:=e;split at h<;>try (simp at h;done)
 rename_i r i;refine⟨fn,c,r,p,d,c5,w,mn x,c4,z,fun t v=>by simp_all,i,?_⟩;split at h
 ·rename_i id ops m t rest g
  split at h<;>try (simp at h;done)
  rename_i k l b B u o;split at h<;>try (simp at h;done)
  rename_i a;simp at h;subst h;exact .rcv id ops m t k rest l b g B u o a.1 a.2.1 a.2.2.1 a.2.2.2
 ·split at h
  ·rename_i b id ops y A
   split at h<;>try (simp at h;done)
   rename_i j l s q u C;split at h<;>try (simp at h;done)
   rename_i a;simp at h;subst h;obtain⟨t,v,q⟩:=Option.bind_eq_some_iff.1 q;exact .dfr b id ops y t j l s A v q u C a.1 a.2
  ·split at h<;>try (simp at h;done)
   rename_i b o;split at h<;>try (simp at h;done)
   rename_i a;simp at h;subst h;exact .plain b o a
section deferred
variable {callA:CallR}
def yX{A:Exit->Act->List Frame->World->Prop}{B:List Frame}(c:gM P base P.globals.size callA.ret)(p:base<=lo){ops:List Oper}{raised:Nat->dG}{L:Nat}(g:∀o ∈ ops,(∀d,o.dst=some d->d<L)/\∀x ∈ (resolve P o.op).2,kv P.globals.size x=true) :
  ∀(l:XN) (φ:Map) (H:Heap) (w:World) (T:Raw) (a:Act),lo<=H.length->Tmps ds φ L T a->HRel φ base P.globals.size H w->∀s H',bg P callA.ret lo ops raised l T H=some (s,H') ->
   (∀a' w' m,Tmps ds m L s a'->Eff φ base P.globals.size lo H w m H' w'->A .normal a' B w')->wpOpsS P ops.toArray A l a B w
 | [],φ,H,w,T,a,_,t,C,s,H',j,D=>by
  simp[bg]at j;obtain⟨rfl,rfl⟩:=j;exact D a w φ t<|Eff.refl C
 | i::l,φ,H,w,T,a,q,t,C,s,H',j,D=>by
  simp[bg]at j;split at j
  next o S=>
   split at j
   next U O b=>
    have⟨R,hop⟩:=g o<|List.mem_of_getElem? S;simp[wpOpsS,aj₀,S];rw[nq t o];unfold bZ at b;split at b
    next G=>
     rw[G];simp[if_true];have J:∃v,(match rsv P (raised i) o with
       | (.l l,xs)=>(aG l (xs.map<|ah T) H).map λv=>(v,H)
       | (.h h,xs)=>hsem callA.ret lo h (xs.map<|ah T) H)=some (v,O)/\U=fZ T o.dst v:=by
      cases u:rsv P (raised i) o with
      | mk M xs=>
      rw[u]at b;cases M with
      | l l=>
       simp only at b ⊢;split at b
       next v y=>simp at b;obtain⟨rfl,rfl⟩:=b;exact⟨v,by simp[y],rfl⟩
       .grind
      | h h=>
       simp only at b ⊢;split at b
       next v X y=>simp at b;obtain⟨rfl,rfl⟩:=b;exact⟨v,y,rfl⟩
       .grind
     obtain⟨v,y,rfl⟩:=J;have k:=Ij (Q:=λe a' w'=>A e a' B w') (K:=λa' w'=>wpOpsS P ops.toArray A l a' B w') (raised:=raised i) c p q t C hop y λY m w' f F=>
      yX c p g l m O w' _ _ (Nat.le_trans q f.keeps.1) ((t.mono f.le).put R F) f.rel s H' j
      (λa' N z V W=>D a' N z V<|Eff.trans f W)
     unfold Oper.wp at k;generalize (execOp a.eval o).run P w=r at k;split
     .exact k.elim
     .exact k
    next G=>
     have I:bY ops T o=false:=by simpa using G
     rw[I];simp[ah₀,if_false];simp at b;obtain⟨rfl,rfl⟩:=b;exact yX c p g l φ H w _ _ q (t.put R fu) C s H' j D
   .grind
  .grind
theorem pV{ops ops2:List Oper}{r:Nat->dG}(h:∀i,0<i->ops[i]?=ops2[i]?)(a:(ops[0]?).map (·.dst)=(ops2[0]?).map (·.dst)):∀(l:XN),(∀i ∈ l,0<i)->∀T H,bg P callA.ret lo ops r l T H=bg P callA.ret lo ops2 r l T H
 | [],_,T,H=>rfl
 | i::l,e,T,H=>by
  have g:=e i Wc;simp[bg,h i g];cases t:ops2[i]? with
  | none=>rfl
  | some o=>
   have p:bY ops T o=bY ops2 T o:=by
    unfold bY;cases f:o.guard with
    | none=>rfl
    | some q=>
     have⟨j,b⟩:=q;simp only;cases j with
     | succ j=>rw[h (j+1) byO]
     | zero=>
      cases d:ops[0]? with
      | none=>rw[d]at a;cases c:ops2[0]? with
       | none=>rfl
       | some s=>rw[c]at a;grind
      | some u=>
       rw[d]at a;cases c:ops2[0]? with
       | none=>rw[c]at a;grind
       | some s=>rw[c]at a;simp at a;simp[a]
   have m:bZ P callA.ret lo ops (r i) o T H=bZ P callA.ret lo ops2 (r i) o T H:=by
    unfold bZ;rw[p]
   simp[m];split
   .exact pV h a l (λj k=>e j (by simp[k])) _ _
   .rfl
def Gv{c:Code}{id:Nat}{ops:Array Oper}{a:List Oper}{t:Nat}{rest:Code}(h:KK c=some (id,ops,a,t,rest)) :
  c=.seq (.region id ops false) rest/\∃o l tys ty pos b,ops.toList=o::l/\o=⟨some t,.call ⟨.builtin .recover,#[],tys⟩,ty,pos,b,none⟩/\a={ o with op:=.move (.tmp t) }::l:=by
 unfold KK at h;split at h<;>try (simp at h)
 split at h<;>try (simp at h)
 rename_i o l d;split at h<;>try simp at h;done
 simp at h;have⟨dst,op,ty,pos,b,g⟩:=o
 grind
def Mode(φ:Map)(u:FrameMode)(rv:Value):Prop:=(u=.returning/\rv=.nilIface)\/∃cv,u=.panicking [pe cv]/\VRel φ rv cv
def MF{cp:Wl}(j1:je P cp)(F:RunOK P base P.globals.size callA)(Y:mH P callA base)(w0:base<=lo){g:FuncId}{args cargs:XV}{S:Value}{H J:Heap}{w:World}{φ:Map}{u:FrameMode}
  (h:jv cp callA lo n g args S H=some J) (H0:lo<=H.length) (hH:HRel φ base P.globals.size H w) (U:LRel φ args cargs) (hu:Mode φ u S) :
  (∃ fn, P.funcs[g]? = some fn ∧ fn.body.isSome = true ∧ fn.name ≠ "runtime.NumGoroutine") ∧ CallsD P g cargs.toArray u w fun e G w' => (∃ v, e = .returned v) ∧ settle G = .returning ∧ ∃ s, Eff φ base P.globals.size lo H w s J w' := by
 unfold jv at h;cases W:cp g with
 | none=>rw[W]at h;simp at h
 | some cg=>
 rw[W]at h;obtain⟨tr,q1⟩|⟨g0,_,c0|⟨c0,_⟩⟩:=j1 g cg W;rotate_left
 ·simp[c0]at h
 ·simp[c0]at h
 obtain⟨fn,c,r,y0,z,e0,c1,B,c4,c7,c3,A1,hC⟩:=oy q1;cases hC with
 | plain b hb hc=>simp at h
 | dfr=>simp at h
 | rcv id ops B1 t k rest l b x0 hk hl hb ho hr he F1=>
 simp only at h;split at h<;>try (simp at h;done)
 rename_i z0;refine⟨⟨fn,y0,by simp[z],e0⟩,?_⟩;obtain⟨rfl,o,l',tys,ty,pos,af,o1,rfl,rfl⟩:=Gv x0;have C:ops=((⟨some t,.call ⟨.builtin .recover,#[],tys⟩,ty,pos,af,none⟩:Oper)::l').toArray:=by rw[<-o1]
 have k1:k<tr.length:=(List.getElem?_eq_some_iff.1 (dS hk)).1;have X0:t<fn.ntmps:=c3 t (List.mem_of_getElem? (dS hk))
 let T0:Raw:=fun x=>if x=t then S else args.getD x undef
 have s0:dH tr ((args++List.replicate (tr.length-(fn.params.size+fn.nfree)) undef).set k S) T0:=by
  have h0:=kM z0 c1 c4 B;refine⟨by rw[List.length_set];exact h0.1,fun j x q=>?_⟩;by_cases b0:k=j
  ·subst b0
   have:x=t:=by have:=dS hk;rw[q]at this;simpa using this
   subst this;simp only[T0,if_true];rw[List.getElem?_set_self (by rw[h0.1];exact k1)]
  ·rw[List.getElem?_set_ne b0,h0.2 j x q]
   have:x≠t:=fun e=>b0 (B k j t (dS hk) (e▸q));simp[T0,this]
 have Y0:=ll U (show args.length<=fn.ntmps by omega);have q0:∃m K I y,(m=Ex.normal\/m=.ret)/\exec callA lo n (ez l) ((args++List.replicate (tr.length-(fn.params.size+fn.nfree)) undef).set k S) H=some (.normal,K,I)/\exec callA lo n b K I=some (m,y,J):=by
  have r0:∀m y T,(m=Ex.normal\/m=.ret)->exec callA lo n (.seq (ez l) b) ((args++List.replicate (tr.length-(fn.params.size+fn.nfree)) undef).set k S) H=some (m,y,T)->T=J->∃m K I y,(m=Ex.normal\/m=.ret)/\exec callA lo n (ez l) ((args++List.replicate (tr.length-(fn.params.size+fn.nfree)) undef).set k S) H=some (.normal,K,I)/\exec callA lo n b K I=some (m,y,J):=by
   intro m y T A q he;subst he;simp only[exec]at q;split at q
   ·rename_i K I hs;exact⟨m,K,I,y,A,hs,q⟩
   ·rename_i m1
    rcases l7 B hl s0 q with ⟨e1,_⟩|⟨e1,_⟩
    ·subst e1;exact absurd q (m1 _ _)
    ·subst e1;rcases A with h|h<;>cases h
  split at h
  ·rename_i y T q;simp at h;exact r0 .normal y T (.inl rfl) q h
  ·rename_i y T q;simp at h;exact r0 .ret y T (.inr rfl) q h
  ·simp at h
 obtain⟨m,K,I,y,A,u1,x1⟩:=q0;rcases l7 B hl s0 u1 with ⟨_,_,T1,O,g2,_⟩|⟨e1,_⟩;rotate_left
 ·cases e1
 have S0:List.range (l'.length+1)=0::(List.range l'.length).map (·+1):=by rw[List.range_succ_eq_map]
 simp only[du,ah₀,if_false,ak₀]at O;rw[S0]at O;simp only[bg,List.getElem?_cons_zero]at O;split at O;rotate_left
 ·simp at O
 rename_i Tx Hx M;have Q:Tx=T0/\Hx=H:=by
  simp only[bZ,bY,if_true,rsv,uZ,Abs.resolve,an,aq₀,ag₀,al₀,ah,aG]at M;simp only[ab₀,ad₀]at M;refine⟨?_,M.2.symm⟩;rw[<-M.1];funext x;simp only[fZ];split
  ·rename_i e;rw[e]
  ·rfl
 rw[Q.1,Q.2]at O;have o0:∀i ∈ (List.range l'.length).map (·+1),0<i:=fun i hi=>by
  obtain⟨j,_,rfl⟩:=List.mem_map.1 hi;exact Nat.succ_pos j
 rw[pV (ops:=(⟨some t,.move (.tmp t),ty,pos,af,none⟩:Oper)::l') (ops2:=(⟨some t,.call ⟨.builtin .recover,#[],tys⟩,ty,pos,af,none⟩:Oper)::l') (fun i hi=>by
   obtain⟨i',rfl⟩:∃i',i=i'+1:=⟨i-1,byO⟩;simp) rfl _ o0]at O
 have l0:∀o ∈ ((⟨some t,.call ⟨.builtin .recover,#[],tys⟩,ty,pos,af,none⟩:Oper)::l'),(∀d,o.dst=some d->d<fn.ntmps)/\∀x ∈ (Abs.resolve P o.op).2,kv P.globals.size x=true:=by
  intro o j0;rcases List.mem_cons.1 j0 with rfl|j0
  ·refine⟨fun d hd=>by simp only[ab₀]at hd;rw[<-hd];exact X0,fun x q=>?_⟩
   simp[Abs.resolve,an]at q
  ·exact gQ ho o (by simp[j0])
 refine callsD_of_wpS y0 z fun f N V=>?_;refine wpS_seq (wpS_region ?_);have p1:ops.size=l'.length+1:=by rw[C];simp
 rw[p1,S0];simp only[wpOpsS];have h0:ops[0]?=some ⟨some t,.call ⟨.builtin .recover,#[],tys⟩,ty,pos,af,none⟩:=by rw[C];simp
 rw[h0];simp only[Region.wanted,if_true];have a0:∀(a:Act) (w:World),(execOp a.eval ⟨some t,.call ⟨.builtin .recover,#[],tys⟩,ty,pos,af,none⟩).run P w=.ok .recover w:=by
  intro a w;simp only[execOp,Go.resolve,Sem.run_bind,Sem.run_pure,Result.andThen_ok,invoke,builtin]
 rw[a0];simp only;have go:∀(L:Value) (G:FrameMode),VRel φ S L->settle G=.returning->wpOpsS P ops (Exit.thenS (rest.wpS P (bodyPostS P fn f N fun e G w'=>(∃v,e=.returned v)/\settle G=.returning/\∃s,Eff φ base P.globals.size lo H w s J w')) (bodyPostS P fn f N fun e G w'=>(∃v,e=.returned v)/\settle G=.returning/\∃s,Eff φ base P.globals.size lo H w s J w'))
   ((List.range l'.length).map (·+1)) (({ tmps:=cargs.toArray++Array.replicate (fn.ntmps-cargs.toArray.size) undef,defers:=[] }:Act).put (some t) L) ({ f with mode:=G }::N) w:=by
  intro L G X r1;have Z0:Tmps [] φ fn.ntmps T0 (({ tmps:=cargs.toArray++Array.replicate (fn.ntmps-cargs.toArray.size) undef,defers:=[] }:Act).put (some t) L):=by
   have:=Y0.put (dst:=some t) (fun d hd=>by cases hd;exact X0) X;exact this
  rw[C];refine yX F.toRet w0 l0 _ φ H w T0 _ H0 Z0 hH T1 I O fun a1 w1 y1 b1 Z=>?_;refine wpS_of_wp ?_;refine nN (n:=n) F.toRet F.toPan Y w0 B (SizeOf.sizeOf rest+1) rest byO b hb hr [] _ y1 I w1 T1 a1 K g2 b1 Z.rel (Nat.le_trans H0 Z.keeps.1) m y J x1 ⟨fun _ a2 w2 z1 T2 h1 h2 h3=>?_,fun p S3 e=>by rcases A with rfl|rfl<;>cases e⟩;have R:a2.defers=[]/\∃u2,({ f with mode:=G }::N:List Frame)={ f with mode:=u2 }::N/\∃v,(results fn a2.tmps).run P w2=.ok v w2/\((∃v',Ending.returned v=.returned v')/\settle u2=.returning/\∃s,Eff φ base P.globals.size lo H w s J w2):=by
   refine⟨h2.defers,G,rfl,.tuple #[],?_,⟨_,rfl⟩,r1,z1,Eff.trans Z h3⟩;have:fn.results=#[]:=by simpa using he
   simp[results,this]
  rcases A with rfl|rfl
  ·exact R
  ·exact R
 rcases hu with ⟨rfl,rfl⟩|⟨L,rfl,X⟩
 ·have D:recoverD (f::N)=none:=by simp[recoverD,V]
  rw[D];simp only;have:=go .nilIface .returning .nilIface rfl;rw[show({ f with mode:=.returning }:Frame)=f by rw[<-V]]at this;exact this
 ·have D:recoverD (f::N)=some (L,{ f with mode:=.panicking [{ v:=L,recovered:=true }] }::N):=by simp[recoverD,V,pe]
  rw[D];simp only;exact go L (.panicking [{ v:=L,recovered:=true }]) X rfl
def Gh(k:gM P base P.globals.size callA.ret)(o:sS P base P.globals.size callA.pan)(l:mH P callA base)(t:base<=lo){tr:XN}(u:Nd tr){q id:Nat}{ops:Array Oper}{y:Code} :
  ∀(c:Code) (s:Stm),sk P tr q c=some (s,id,ops,y)->∀(Q:Exit->Act->World->Prop) (φ:Map) (H:Heap) (w:World) (T:Raw) (a:Act) (S:XV),dH tr S T->Tmps ds φ q T a ->
   HRel φ base P.globals.size H w->lo<=H.length->∀e j H',exec callA lo n s S H=some (e,j,H') ->
   KOK P base lo q tr ds (Exit.then ((Code.seq (.region id ops false) y).wp P Q) Q) φ H w e j H'->c.wp P Q a w:=by
 have step:∀(x b:Code) (s:Stm) (x':Stm),(∀(Q:Exit->Act->World->Prop) (φ:Map) (H:Heap) (w:World) (T:Raw) (a:Act) (S:XV),dH tr S T->Tmps ds φ q T a ->
   HRel φ base P.globals.size H w->lo<=H.length->∀e j H',exec callA lo n s S H=some (e,j,H') ->
   KOK P base lo q tr ds (Exit.then ((Code.seq (.region id ops false) y).wp P Q) Q) φ H w e j H'->b.wp P Q a w)->bF P tr x=some x'->b7 P q x=true ->
   ∀(Q:Exit->Act->World->Prop) (φ:Map) (H:Heap) (w:World) (T:Raw) (a:Act) (S:XV),dH tr S T->Tmps ds φ q T a ->
   HRel φ base P.globals.size H w->lo<=H.length->∀e j H',exec callA lo n (.seq x' s) S H=some (e,j,H') ->
   KOK P base lo q tr ds (Exit.then ((Code.seq (.region id ops false) y).wp P Q) Q) φ H w e j H'->(Code.seq x b).wp P Q a w:=by
  intro x b s x' X f g Q φ H w T a S D F B m e j H' p C;apply wp_seq;simp[exec]at p;split at p
  next L K V=>
   exact nN k o l t u (SizeOf.sizeOf x+1) x byO x' f g ds _ φ H w T a S D F B m .normal L K V (KOK.normal λU w1 J R Y Z I=>
    X Q J K w1 R U L Y Z I.rel (Nat.le_trans m I.keeps.1) e j H' p<|C.step I)
  next v=>
   refine nN k o l t u (SizeOf.sizeOf x+1) x byO x' f g ds _ φ H w T a S D F B m e j H' p<|C.imp (λ_ a w h=>?_) λ_ _ _ h=>h;cases e with
   | normal=>exact absurd p<|v _ _
   | exit i=>unfold jA at *;simp only at *;split at h<;>rename_i N<;>first|(rw[if_pos N];exact h)|(rw[if_neg N];exact h)
   | ret=>exact h
 intro c
 induction c with
 | seq x b _ z=>
  intro s d;unfold sk at d;split at d<;>try simp at d;done
  next W O draw y0 r=>
   cases r;split at d
   next M=>
    simp[ab₀,ad₀]at d;obtain⟨rfl,rfl,rfl,rfl⟩:=d;simp[ac₀,Bool.not_eq_true']at M;obtain⟨rfl,_⟩:=M;intro Q φ H w T a S D F B m e j H' p C;simp[exec]at p;obtain⟨rfl,rfl,rfl⟩:=p;exact C.1 Wc a w φ T D F<|Eff.refl B
   .split at d<;>try simp at d;done
    rename_i A r0 G;split at d<;>try simp at d;done
    rename_i x' f;split at d<;>try simp at d;done
    rename_i g;simp[ab₀,ad₀]at d;obtain⟨rfl,rfl⟩:=d;exact step _ _ A x' (z A G) f g
  next x0 b0 v r=>
   cases r;split at d<;>try simp at d;done
   rename_i A r0 G;split at d<;>try simp at d;done
   rename_i x' f;split at d<;>try simp at d;done
   rename_i g;simp[ab₀,ad₀]at d;obtain⟨rfl,rfl⟩:=d;exact step _ _ A x' (z A G) f g
 | _=>intro s d;simp[sk]at d
def vG{ops:List Oper}{t:Nat}(h:kl ops=some t):∃tys ty pos a,ops=ops.dropLast++[⟨none,.defer ⟨.value<|.tmp t,#[],tys⟩,ty,pos,a,none⟩]:=by
 unfold kl at h;split at h<;>try (simp at h)
 rename_i o b;have⟨dst,c,ty,pos,a,g⟩:=o
 grind[List.dropLast_concat_getLast,List.length_pos_iff]
theorem pW{a:List Oper}{ol:Oper}{r:Nat->dG}(f:ol.dst=none):∀(l:XN),(∀i ∈ l,i<a.length)->∀T H,bg P callA.ret lo (a++[ol]) r l T H=bg P callA.ret lo a r l T H
 | [],_,T,H=>rfl
 | i::l,h,T,H=>by
  have g:=h i Wc;have m:(a++[ol])[i]?=a[i]?:=ax₀ g;have e:a[i]?=some a[i]:=bc₀ g;simp[bg,m,e];have p:bY (a++[ol]) T a[i]=bY a T a[i]:=by
   unfold bY;cases k:(a[i]).guard with
   | none=>rfl
   | some q=>
    have⟨j,b⟩:=q;simp only;by_cases c:j<a.length
    .rw[ax₀ c]
    .rw[aw₀ byO,av₀ (l:=a) byO]
     by_cases d:j=a.length
     .subst d;simp[f]
     .rw[av₀ Wr]
  have o:bZ P callA.ret lo (a++[ol]) (r i) a[i] T H=bZ P callA.ret lo a (r i) a[i] T H:=by
   unfold bZ;rw[p]
  rw[o];split
  .exact pW f l (λj c=>h j (by simp[c])) _ _
  .rfl
end deferred
def JL{cp:Wl}(A:∀n,RunOK P base P.globals.size (run cp n)->mH P (run cp n) base)(H0:je P cp):∀n,RunOK P base P.globals.size (run cp n)
 | 0=>fun lo f args H r H' _ _ h=>by simp[run]at h
 | n+1=>by
  intro lo f args H r H' Y a0 h;have k:=JL A H0 n;have h0:=h;simp only[run]at h;cases z0:cp f with
  | none=>rw[z0]at h;simp at h
  | some cf=>
  rw[z0]at h;simp only at h;split at h<;>try (simp at h;done)
  rename_i M;obtain⟨tr,F2⟩|⟨g0,⟨u1,F1⟩,A1|⟨A1,y2⟩⟩:=H0 f cf z0;rotate_left
  ·rw[A1]at h
   simp only at h;split at h<;>try (simp at h;done)
   rename_i v hv;simp at h;obtain⟨rfl,rfl⟩:=h;refine⟨u1,fun φ w cargs hH m=>(F1 base args H v M hv φ w cargs hH m).mono ?_⟩;rintro e w' ⟨G,b,rfl,m1,he⟩;exact⟨G,b,⟨rfl,m1⟩,he.weaken a0⟩
  ·obtain⟨v,rfl,rfl,hv⟩:=y2 n lo args H r H' M h0
   refine⟨u1,fun φ w cargs hH m=>(F1 base args H' v M hv φ w cargs hH m).mono ?_⟩;rintro e w' ⟨G,b,rfl,m1,he⟩;exact⟨G,b,⟨rfl,m1⟩,he.weaken a0⟩
  obtain⟨fn,c,W1,T0,K,b1,c1,T,c4,c7,c3,e0,hC⟩:=oy F2;refine⟨⟨fn,T0,by simp[K],b1⟩,fun φ w cargs hH m=>?_⟩;cases hC with
  | plain Q L c6=>
   simp only at h M;have hS:=kM M c1 c4 T;have hT:=ll m (show args.length<=fn.ntmps by omega);refine calls_of_wp T0 K ?_;have D:=fun(R:Ending->World->Prop) X I C hK=>nN (n:=n) k.toRet k.toPan (A n k) Y T (SizeOf.sizeOf c+1) c byO Q L c6 [] (bodyPost P fn R) φ H w _ _ _ hS hT hH a0 X I H' C hK;have o1:∀X I ,(X=Ex.normal\/X=Ex.ret)->exec (run cp n) lo n Q (args++List.replicate (tr.length-(fn.params.size+fn.nfree)) undef) H=some (X,I,H') ->
     (∃vs,evList I H' W1=some vs/\r=.inl (aR vs)) ->
     c.wp P (bodyPost P fn (fun e w'=>∃G b,Ends b r G e/\Eff φ base P.globals.size lo H w b H' w')) { tmps:=cargs.toArray++Array.replicate (fn.ntmps-cargs.toArray.size) undef,defers:=[] } w:=by
    rintro X I p1 C ⟨vs,F,rfl⟩;refine D _ X I C ⟨fun _ a' w' b T' h1 h2 h3=>?_,fun p S1 e=>by rcases p1 with rfl|rfl<;>cases e⟩;obtain⟨v,j0,l0⟩:=ob h1 h2 h3.rel e0 F;have w0:a'.defers=[]/\∃v,(results fn a'.tmps).run P w'=.ok v w'/\∃G b,Ends b (.inl (aR vs)) G (Ending.returned v)/\Eff φ base P.globals.size lo H w b H' w':=
     ⟨h2.defers,_,j0,_,b,⟨rfl,l0⟩,h3⟩
    rcases p1 with rfl|rfl
    ·exact w0
    ·exact w0
   split at h
   ·rename_i I H1 C
    split at h
    ·rename_i vs F
     simp at h;obtain⟨rfl,rfl⟩:=h;exact o1 .normal I (.inl rfl) C ⟨vs,F,rfl⟩
    ·simp at h
   ·rename_i I H1 C
    split at h
    ·rename_i vs F
     simp at h;obtain⟨rfl,rfl⟩:=h;exact o1 .ret I (.inr rfl) C ⟨vs,F,rfl⟩
    ·simp at h
   ·rename_i j p I H1 C
    split at h
    ·rename_i hj
     simp at h;obtain⟨rfl,rfl⟩:=h;subst hj;refine D _ _ _ C ⟨fun c0=>absurd rfl c0,fun p' S1 _ e a' w' b T' G h1 h2 h3 h4=>?_⟩;cases e;exact⟨h2.defers,G,b,⟨rfl,h4⟩,h3⟩
    ·simp at h
   ·simp at h
  | rcv=>simp at h
  | dfr Q id ops y t j l s L ht hj hl hs ho hy=>
   simp only at h M;have hS:=kM M c1 c4 T;have hT:=ll m (show args.length<=fn.ntmps by omega);refine calls_of_wp_defers T0 K ?_;have D:=fun(R:Ending->World->Prop) X I H1 C hK=>Gh (n:=n) k.toRet k.toPan (A n k) Y T c Q L (bodyPostD P fn R) φ H w _ _ _ hS hT hH a0 X I H1 C hK;unfold iT at h;split at h
   ·
    rename_i S H1 C;unfold oa at h;split at h<;>try (simp at h;done)
    rename_i vs F;simp at h;obtain⟨rfl,rfl⟩:=h;refine D _ _ _ _ C ⟨fun _ a' w' b T' h1 h2 h3=>?_,fun p S1 e=>by cases e⟩;obtain⟨v,j0,l0⟩:=ob h1 h2 h3.rel e0 F;show Leaves P fn a'.tmps _ a'.defers .returning w';rw[h2.defers];exact⟨v,j0,_,b,⟨rfl,l0⟩,h3⟩
   ·
    rename_i i p S H1 C;split at h<;>try (simp at h;done)
    rename_i hi;simp at h;obtain⟨rfl,rfl⟩:=h;subst hi;refine D _ _ _ _ C ⟨fun c0=>absurd rfl c0,fun p' S1 _ e a' w' b T' G h1 h2 h3 h4=>?_⟩;cases e;show Leaves P fn a'.tmps _ a'.defers (.panicking [pe G]) w';rw[h2.defers];exact⟨G,b,⟨rfl,h4⟩,h3⟩
   ·rename_i S H1 C
    split at h<;>try (simp at h;done)
    rename_i S1 H2 hm;split at h<;>try (simp at h;done)
    rename_i g J x0 j2
    refine D _ _ _ _ C (KOK.normal fun a1 w1 G2 T1 k1 k2 k3=>?_);obtain⟨tys,ty,pos,af,s0⟩:=vG ht;rcases l7 T hl k1 hm with ⟨_,_,T2,g1,g2,_⟩|⟨e1,_⟩;rotate_left
    ·cases e1
    have Y0:ops.size=ops.toList.dropLast.length+1:=by
     have:ops.toList.length=(ops.toList.dropLast++[(⟨none,.defer ⟨.value (.tmp t),#[],tys⟩,ty,pos,af,none⟩:Oper)]).length:=congrArg List.length s0;simpa using this
    have b0:=Nat.le_trans a0 k3.keeps.1;refine wp_seq (wp_region ?_);rw[Y0,List.range_succ];have u2:ops=(ops.toList.dropLast++[(⟨none,.defer ⟨.value (.tmp t),#[],tys⟩,ty,pos,af,none⟩:Oper)]).toArray:=by rw[<-s0]
    have j1:∀o ∈ ops.toList.dropLast++[(⟨none,.defer ⟨.value (.tmp t),#[],tys⟩,ty,pos,af,none⟩:Oper)],(∀d,o.dst=some d->d<fn.ntmps)/\∀x ∈ (Abs.resolve P o.op).2,kv P.globals.size x=true:=by
     intro o U;rcases List.mem_append.1 U with U|U
     ·exact gQ ho o U
     ·simp at U;subst U
      exact⟨fun d hd=>by simp at hd,fun x C=>by simp[Abs.resolve,an]at C⟩
    simp only[du,ah₀,if_false]at g1;rw[<-pW (ol:=(⟨none,.defer ⟨.value (.tmp t),#[],tys⟩,ty,pos,af,none⟩:Oper)) rfl _ (fun i hi=>by simpa using hi)]at g1;generalize x2:ops.toList.dropLast=L1 at *;rw[u2];refine p0 [L1.length] k.toRet Y j1 _ G2 H1 w1 T1 a1 b0 k2 k3.rel T2 H2 g1 fun a2 w2 r0 q1 q2=>?_;have e2:=Eff.trans k3 q2;have y1:T2 t=.func (.func g) J x0:=by
     have:=g2.2 j t (dS hj);rw[j2]at this;simpa using this.symm
    have X0:=q1.rel t;rw[y1]at X0;generalize b2:a2.tmps.getD t undef=fc at X0;cases X0 with
    | func _ _ _ a z B2 C2 z2 A2=>
    rw[wpOps_cons];unfold wpOp;simp only[aj₀,aw₀ (Nat.le_refl _),Nat.sub_self,List.getElem?_cons_zero,Region.wanted,if_true];left;unfold Oper.wp;have S0:(execOp a2.eval (⟨none,.defer ⟨.value (.tmp t),#[],tys⟩,ty,pos,af,none⟩:Oper)).run P w2=.ok (.defer { target:=.fn (.func g) z,args:=a++#[] }) w2:=by
     have he:a2.eval (.tmp t)=.func (.func g) a z:=b2;simp only[execOp,Go.resolve,he,Deferred.ofValue,Sem.run_bind,Sem.run_pure,Result.andThen_ok];simp
    rw[S0,Oper.upon_defer];have X1:Tmps [{ target:=.fn (.func g) z,args:=a++#[] }] r0 fn.ntmps T2 (({ a2 with defers:={ target:=.fn (.func g) z,args:=a++#[] }::a2.defers }:Act).put none undef):=by
     refine⟨q1.size,q1.rel,?_⟩;show _::a2.defers=_;rw[q1.defers]
    have q0:∀{q:Map},r0.le q->LRel q (J.toList++x0.toList) (a.toList++z.toList):=fun m2=>
     ((LRel.arr.2 ⟨B2,z2⟩).append (LRel.arr.2 ⟨C2,A2⟩)).mono m2
    have rest:=fun(R:Ending->World->Prop) X I V C hK=>nN (n:=n) k.toRet k.toPan (A n k) Y T (SizeOf.sizeOf y+1) y byO s hs hy _ (bodyPostD P fn R) r0 H2 w2 T2 _ S1 g2 X1 q2.rel (Nat.le_trans b0 q2.keeps.1) X I V C hK;have O:∀(S2:XV) (V H4:Heap) (rv:Value) (u:FrameMode) (W:Act) (w3:World) (q:Map) (T3:Raw),dH tr S2 T3->Tmps [{ target:=.fn (.func g) z,args:=a++#[] }] q fn.ntmps T3 W->Eff r0 base P.globals.size lo H2 w2 q V w3->Mode q u rv->u≠.run ->
      jv cp (run cp n) lo n g (J.toList++x0.toList) rv V=some H4->oa W1 S2 H4=some (r,H') ->
      Leaves P fn W.tmps (fun e w'=>∃G b,Ends b r G e/\Eff φ base P.globals.size lo H w b H' w') W.defers u w3:=by
     intro S2 V H4 rv u W w3 q T3 r1 r2 r3 Z0 K1 N B;have B1:lo<=V.length:=Nat.le_trans (Nat.le_trans b0 q2.keeps.1) r3.keeps.1;obtain⟨⟨y0,x1,L2,p2⟩,Z1⟩:=MF (n:=n) H0 k (A n k) Y N B1 r3.rel (q0 r3.le) Z0;rw[r2.defers];unfold oa at B;split at B<;>try (simp at B;done)
     rename_i vs F;simp at B;obtain⟨rfl,rfl⟩:=B;have z1:(invoke (.fn (.func g) z) (a++#[])).run P w3=.ok (.enter g (a.toList++z.toList).toArray) w3:=by
      have Y1:y0.body.isNone=false:=by cases h:y0.body<;>simp_all
      have o2 : (y0.name == "runtime.NumGoroutine") = false := by simpa using p2
      simp only[invoke,callFunc,Sem.run_bind,run_program,x1,Result.andThen_ok];rw[if_neg (by simp[o2]),if_neg (by simp[Y1])];simp
     refine leaves_cons K1 z1 (Z1.mono fun e u' w4 ⟨⟨v,hv⟩,G1,K2,Z⟩=>?_);subst hv;show Leaves P fn W.tmps _ [] (settle u') w4;rw[G1];obtain⟨v2,j0,l0⟩:=ob r1 (r2.mono Z.le) Z.rel e0 F;exact⟨v2,j0,_,K2,⟨rfl,l0⟩,Eff.trans e2 (Eff.trans r3 Z)⟩
    split at h
    ·rename_i S2 V o0
     split at h<;>try (simp at h;done)
     rename_i H4 N;exact rest _ _ _ _ o0 ⟨fun _ W w3 q T3 r1 r2 r3=>O S2 V H4 _ .returning W w3 q T3 r1 r2 r3 (.inl ⟨rfl,rfl⟩) Wc N h,fun p S3 e=>by cases e⟩
    ·rename_i S2 V o0
     split at h<;>try (simp at h;done)
     rename_i H4 N;exact rest _ _ _ _ o0 ⟨fun _ W w3 q T3 r1 r2 r3=>O S2 V H4 _ .returning W w3 q T3 r1 r2 r3 (.inl ⟨rfl,rfl⟩) Wc N h,fun p S3 e=>by cases e⟩
    ·rename_i i p S2 V o0
     split at h<;>try (simp at h;done)
     rename_i hi;split at h<;>try (simp at h;done)
     rename_i H4 N;subst hi;refine rest _ _ _ _ o0 ⟨fun c0=>absurd rfl c0,fun p' S3 _ e W w3 q T3 G r1 r2 r3 r4=>?_⟩;cases e;exact O S2 V H4 p (.panicking [pe G]) W w3 q T3 r1 r2 r3 (.inr ⟨G,rfl,r4⟩) Wc N h
    ·simp at h
   ·simp at h
end
end Go.Abs
