/- Lemmas. -/
import Derived.Test.YtmnlgdpdgjbfgaaGreatF6
set_option linter.all false
namespace Go.Abs
def Ev(cp:FuncId->Option CF)(lo:Nat)(f:FuncId)(args:List Value)(H:Heap)(R:Value->Heap->Prop):Prop:=
 ∃N v H',(∀n,N<=n->run cp n lo f args H=some (.inl v,H'))/\R v H'
theorem Ev.mono{cp:FuncId->Option CF}{lo:Nat}{f:FuncId}{args:List Value}{H:Heap}{R a:Value->Heap->Prop}(h:Ev cp lo f args H R)(d:∀v H',R v H'->a v H'):Ev cp lo f args H a:=by have⟨N,v,H',b,c⟩:=h;exact⟨N,v,H',b,d _ _ c⟩
def EvP(cp:FuncId->Option CF)(lo:Nat)(f:FuncId)(args:List Value)(H:Heap)(R:Value->Heap->Prop):Prop:=
 ∃N v H',(∀n,N<=n->run cp n lo f args H=some (.inr v,H'))/\R v H'
theorem EvP.mono{cp:FuncId->Option CF}{lo:Nat}{f:FuncId}{args:List Value}{H:Heap}{R a:Value->Heap->Prop}(h:EvP cp lo f args H R)(d:∀v H',R v H'->a v H'):EvP cp lo f args H a:=by have⟨N,v,H',b,c⟩:=h;exact⟨N,v,H',b,d _ _ c⟩
abbrev bI:=Ex->List Value->Heap->Prop
def setD(S:List Value)(dst:Option Nat)(v:Value):List Value:=match dst with|some d=>S.set d v|none=>S
def cK(lo:Nat)(o:HOp)(vs:List Value)(H:Heap):Option<|Value×Heap:=hsem (λ_ _ _ _=>none) lo o vs H
def wpH(cp:FuncId->Option CF)(lo:Nat)(o:HOp)(vs:List Value)(H:Heap)(R:Value->Heap->Prop):Prop:=
 match o with
 | .call raise=>match vs with
  | .func (.func f) first cap::args=>Ev cp (if raise then H.length else lo) f (first.toList++args++cap.toList) H R
  | _=>False
 | .callC=>match vs with
  | .func (.func f) first cap::args=>Ev cp lo f (first.toList++args++cap.toList) H R
  | _=>False
 | o=>match cK lo o vs H with
  | some (v,H')=>R v H'
  | none=>False
def wpP(cp:FuncId->Option CF)(lo:Nat)(o:HOp)(vs:List Value)(H:Heap)(R:Value->Heap->Prop):Prop:=
 match o with
 | .call false=>match vs with
  | .func (.func f) first cap::args=>EvP cp lo f (first.toList++args++cap.toList) H R
  | _=>False
 | .pan=>match vs with
  | [.iface t v]=>R (.iface t v) H
  | _=>False
 | _=>False
def wpS(cp:FuncId->Option CF)(lo:Nat):Stm->bI->List Value->Heap->Prop
 | .skip,Q,S,H=>Q .normal S H
 | .sets l chk,Q,S,H=>match evSets S H l with
  | some vs=>evChk S H chk=true/\Q .normal (setAll S vs) H
  | none=>False
 | .hv l chk pc dst o a,Q,S,H=>match evSets S H l with
  | some vs=>evChk S H chk=true/\match holds S H pc with
   | some true=>match ev S H a with
    | some xs=>(wpH cp lo o xs H λv H'=>Q .normal (setD (setAll S vs) dst v) H')\/(wpP cp lo o xs H λv H'=>Q (.exit cE) (v::setAll S vs) H')
    | none=>False
   | some false=>Q .normal (setD (setAll S vs) dst undef) H
   | none=>False
  | none=>False
 | .dist a b,Q,S,H=>match ev1 S H a,ev1 S H b with
  | some x,some y=>(ae x=none\/ae x≠ae y)/\Q .normal S H
  | _,_=>False
 | .seq a b,Q,S,H=>wpS cp lo a (λex S' H'=>match ex with | .normal=>wpS cp lo b Q S' H'|ex=>Q ex S' H') S H
 | .cond c a b,Q,S,H=>match ev1 S H c with
  | some (.bool t)=>(t=true->wpS cp lo a Q S H)/\(t=false->wpS cp lo b Q S H)
  | _=>False
 | .block i b,Q,S,H=>wpS cp lo b (λex S' H'=>match ex with | .exit j=>if j=i then Q .normal S' H' else Q (.exit j) S' H'|ex=>Q ex S' H') S H
 | .loop b,Q,S,H=>∃(J:Nat->List Value->Heap->Prop) (m:Nat),J m S H/\∀m S H,J m S H->wpS cp lo b (λex S' H'=>match ex with | .normal=>∃m',m'<m/\J m' S' H'|ex=>Q ex S' H') S H
 | .exit i,Q,S,H=>Q (.exit i) S H
 | .ret,Q,S,H=>Q .ret S H
 | .alt l s r,Q,S,H=>match S with
  | .int .i64 t::S0=>(t=(l:Nat)->wpS cp lo s Q S0 H)/\(t≠(l:Nat)->wpS cp lo r Q S H)
  | _=>False
 | .scope b alts,Q,S,H=>∃(J:Nat->Nat->List Value->Heap->Prop),
   wpS cp lo b (λex S' H'=>match ex with | .exit j=>if aa<=j then ∃m,J m (j-aa) S' H' else Q (.exit j) S' H'|ex=>Q ex S' H') S H /\
   ∀m l S H,J m l S H->wpS cp lo alts (λex S' H'=>match ex with | .exit j=>if aa<=j then ∃m',m'<m/\J m' (j-aa) S' H' else Q (.exit j) S' H'|ex=>Q ex S' H') (.int .i64 ((l:Nat):Int)::S) H
set_option maxHeartbeats 4000000 in
theorem yA{callA:dq}{lo:Nat}{o:HOp}{vs:List Value}{H:Heap}(h:o.isCall=false):hsem callA lo o vs H=cK lo o vs H:=by
 cases o<;>simp[HOp.isCall]at h
 all_goals (rcases vs with _|⟨a,_|⟨b,_|⟨c,r⟩⟩⟩)<;>first|rfl|(cases a<;>first|rfl|(rename_i d;cases d<;>first|rfl|(rename_i d;rcases d with ⟨i,o,_|z⟩<;>rfl))|(rename_i d _ _;cases d<;>first|rfl|(cases b<;>first|rfl|(rename_i e _ _;cases e<;>rfl)))|(cases b<;>first|rfl|(rename_i e _ _;cases e<;>rfl)))
theorem Ph{cp:FuncId->Option CF}{lo:Nat}{o:HOp}{vs:List Value}{H:Heap}{R:Value->Heap->Prop}(h:wpH cp lo o vs H R):∃N v H',(∀n,N<=n->hsem (run cp n).ret lo o vs H=some (v,H'))/\R v H':=by
 unfold wpH at h;split at h
 next f=>
  split at h
  .have⟨N,v,H',b,c⟩:=h
   exact⟨N,v,H',λn d=>by simp only[hsem];exact rW<|b n d,c⟩
  .exact h.elim
 .split at h
  .have⟨N,v,H',b,c⟩:=h
   exact⟨N,v,H',λn d=>by simp only[hsem];exact rW<|b n d,c⟩
  .exact h.elim
 next j e a=>
  have g:o.isCall=false:=by
   cases o<;>first|rfl|exact(e _ rfl).elim|exact(a rfl).elim
  split at h
  next v H' i=>
   exact⟨0,v,H',λn _=>by rw[yA g];exact i,h⟩
  .exact h.elim
theorem AV{c:CallR}{lo:Nat}{o:HOp}{vs:List Value}{H:Heap}{r:Value×Heap}(h:cz c lo o vs H=some r):hsem c.ret lo o vs H=none:=by
 unfold cz at h;split at h
 .simp only[hsem,ah₀,if_false,CallR.ret,sU h]
 .rfl
 .simp at h
theorem Pj{cp:FuncId->Option CF}{lo:Nat}{o:HOp}{vs:List Value}{H:Heap}{R:Value->Heap->Prop}(h:wpP cp lo o vs H R):∃N v H',(∀n,N<=n->cz (run cp n) lo o vs H=some (v,H'))/\R v H':=by
 unfold wpP at h;split at h
 .split at h
  .have⟨N,v,H',c,a⟩:=h
   exact⟨N,v,H',λn b=>by grind[cz,zj],a⟩
  simp_all
 .split at h
  .exact⟨0,_,H,λn b=>rfl,h⟩
  simp_all
 simp_all
theorem jP{cp:FuncId->Option CF}{lo:Nat}:∀(st:Stm) (Q:bI) (S:List Value) (H:Heap),wpS cp lo st Q S H->∃N p C H',(∀n,N<=n->exec (run cp n) lo n st S H=some (p,C,H'))/\Q p C H'
 | .skip,Q,S,H,h=>⟨0,.normal,S,H,λ_ _=>rfl,h⟩
 | .sets l V,Q,S,H,h=>by
  simp[wpS]at h;split at h
  next vs M=>exact⟨0,.normal,_,H,λ_ _=>by grind[exec],h.2⟩
  simp_all
 | .hv l V pc dst o a,Q,S,H,h=>by
  simp[wpS]at h;split at h
  next vs M=>
   have⟨D,h⟩:=h;split at h
   next X=>
    split at h
    next xs Z=>
     rcases h with h|h
     .have⟨N,v,H',q,d⟩:=Ph h
      refine⟨N,.normal,_,H',λn e=>?_,d⟩;simp[exec,M,D,if_true,X,Z,q n e];rfl
     .have⟨N,v,H',q,d⟩:=Pj h
      refine⟨N,.exit cE,_,H',λn e=>?_,d⟩
      grind[exec,AV]
    simp_all
   next X=>
    refine⟨0,.normal,_,H,λn _=>?_,h⟩;simp[exec,M,D,if_true,X];rfl
   simp_all
  simp_all
 | .dist a b,Q,S,H,h=>by
  simp[wpS]at h;split at h
  next x y hx hy=>exact⟨0,.normal,S,H,λ_ _=>by grind[exec],h.2⟩
  simp_all
 | .seq a b,Q,S,H,h=>by
  simp[wpS]at h;have⟨N,p,g,f,q,d⟩:=jP a _ S H h;cases p with
  | normal=>
   have⟨G,u,I,F,W,K⟩:=jP b Q g f d;exact⟨max N G,u,I,F,λn e=>by grind[exec],K⟩
  | exit i=>exact⟨N,.exit i,g,f,λn e=>by grind[exec],d⟩
  | ret=>exact⟨N,.ret,g,f,λn e=>by grind[exec],d⟩
 | .cond c a b,Q,S,H,h=>by
  simp[wpS]at h;split at h
  next t Y=>
   cases t
   .have⟨N,p,g,f,q,d⟩:=jP b Q S H<|h.2 rfl
    exact⟨N,p,g,f,λn e=>by grind[exec],d⟩
   .have⟨N,p,g,f,q,d⟩:=jP a Q S H<|h.1 rfl
    exact⟨N,p,g,f,λn e=>by grind[exec],d⟩
  simp_all
 | .block i b,Q,S,H,h=>by
  simp[wpS]at h;have⟨N,p,g,f,q,d⟩:=jP b _ S H h;cases p with
  | normal=>exact⟨N,.normal,g,f,λn e=>by grind[exec],d⟩
  | exit j=>
   simp only at d;split at d
   next T=>exact⟨N,.normal,g,f,λn e=>by grind[exec],d⟩
   next T=>exact⟨N,.exit j,g,f,λn e=>by grind[exec],d⟩
  | ret=>exact⟨N,.ret,g,f,λn e=>by grind[exec],d⟩
 | .loop b,Q,S,H,h=>by
  simp only[wpS]at h;have⟨J,m,R,w⟩:=h;have O:∀m S H,J m S H->∃N p C H',(∀n k,N<=n->N<=k->iter (exec (run cp n) lo n b) k S H=some (p,C,H'))/\Q p C H':=by
   intro m
   induction m using Nat.strongRecOn with
   | _ m ih=>
    intro S H R;have⟨N,p,g,f,q,d⟩:=jP b _ S H<|w m S H R;cases p with
    | normal=>
     have⟨U,L,A⟩:=d;have⟨G,u,I,F,W,K⟩:=ih U L g f A;refine⟨max N G+1,u,I,F,λn k e P=>?_,K⟩;obtain⟨B,rfl⟩:∃B,k=B+1:=⟨k-1,byO⟩
     grind[iter]
    | exit i=>
     refine⟨N+1,.exit i,g,f,λn k e P=>?_,d⟩;obtain⟨B,rfl⟩:∃B,k=B+1:=⟨k-1,byO⟩
     grind[iter]
    | ret=>
     refine⟨N+1,.ret,g,f,λn k e P=>?_,d⟩;obtain⟨B,rfl⟩:∃B,k=B+1:=⟨k-1,byO⟩
     grind[iter]
  have⟨N,p,C,H',q,d⟩:=O m S H R;exact⟨N,p,C,H',λn e=>by grind[exec],d⟩
 | .exit i,Q,S,H,h=>⟨0,.exit i,S,H,λ_ _=>rfl,h⟩
 | .ret,Q,S,H,h=>⟨0,.ret,S,H,λ_ _=>rfl,h⟩
 | .alt l s r,Q,S,H,h=>by
  simp[wpS]at h;split at h
  next t S0=>
   by_cases Y:t=(l:Nat)
   .have⟨N,p,g,f,q,d⟩:=jP s _ S0 H<|h.1 Y
    exact⟨N,p,g,f,λn e=>by grind[exec],d⟩
   .have⟨N,p,g,f,q,d⟩:=jP r _ _ H<|h.2 Y
    exact⟨N,p,g,f,λn e=>by grind[exec],d⟩
  simp_all
 | .scope b z,Q,S,H,h=>by
  simp[wpS]at h;have⟨J,hb,w⟩:=h;have O:∀m l S H,J m l S H->∃N p C H',(∀n k,N<=n->N<=k->hop (exec (run cp n) lo n z) k (exec (run cp n) lo n z (.int .i64 ((l:Nat):Int)::S) H)=some (p,C,H'))/\Q p C H':=by
   intro m
   induction m using Nat.strongRecOn with
   | _ m ih=>
    intro l S H R;have⟨N,p,g,f,q,d⟩:=jP z _ _ H<|w m l S H R;cases p with
    | normal=>exact⟨N,.normal,g,f,λn k e P=>by rw[q n e];cases k<;>rfl,d⟩
    | ret=>exact⟨N,.ret,g,f,λn k e P=>by rw[q n e];cases k<;>rfl,d⟩
    | exit j=>
     simp only at d;split at d
     .have⟨U,L,A⟩:=d
      have⟨G,u,I,F,W,K⟩:=ih U L _ g f A;refine⟨max N G+1,u,I,F,λn k e P=>?_,K⟩;obtain⟨B,rfl⟩:∃B,k=B+1:=⟨k-1,byO⟩
      grind[hop]
     next T=>
      exact⟨N,.exit j,g,f,λn k e P=>by rw[q n e];cases k<;>simp[hop,if_neg T],d⟩
  have⟨N,p,g,f,q,d⟩:=jP b _ S H hb;cases p with
  | normal=>exact⟨N,.normal,g,f,λn e=>by simp[exec];rw[q n e];cases n<;>rfl,d⟩
  | ret=>exact⟨N,.ret,g,f,λn e=>by simp[exec];rw[q n e];cases n<;>rfl,d⟩
  | exit j=>
   simp only at d;split at d
   .have⟨U,A⟩:=d
    have⟨G,u,I,F,W,K⟩:=O U _ g f A;refine⟨max N G+1,u,I,F,λn e=>?_,K⟩;simp[exec];obtain⟨n',rfl⟩:∃n',n=n'+1:=⟨n-1,byO⟩
    grind[hop]
   next T=>
    exact⟨N,.exit j,g,f,λn e=>by simp[exec];rw[q n e];cases n<;>simp[hop,if_neg T],d⟩
def jk(cf:CF)(R:Value->Heap->Prop):bI:=λex S H=>match ex with
 | .exit _=>False
 | _=>match evList S H cf.res with
  | some vs=>R (aM vs) H
  | none=>False
theorem FN{cp:FuncId->Option CF}{lo:Nat}{f:FuncId}{cf:CF}{args:List Value}{H:Heap}{R:Value->Heap->Prop}(l:cp f=some cf)(p:cf.kind=.plain)(m:args.length=cf.np)
  (h:wpS cp lo cf.body (jk cf R) (args++List.replicate (cf.ns-cf.np) undef) H):Ev cp lo f args H R:=by
 have⟨N,a,b,H',k,c⟩:=jP _ _ _ _ h;have j:∀(a:Ex),(a=.normal\/a=.ret)->(∀n,N<=n->exec (run cp n) lo n cf.body (args++List.replicate (cf.ns-cf.np) undef) H=some (a,b,H'))->jk cf R a b H'->Ev cp lo f args H R:=by
  intro a d k c;have e:match evList b H' cf.res with|some vs=>R (aM vs) H'|none=>False:=by
   rcases d with rfl|rfl<;>exact c
  split at e
  next vs o=>
   refine⟨N+1,aM vs,H',λn q=>?_,e⟩;obtain⟨g,rfl⟩:∃g,n=g+1:=⟨n-1,byO⟩
   grind[run]
  simp_all
 cases a with
 | normal=>simp_all
 | exit i=>exact c.elim
 | ret=>simp_all
theorem xG{P:Program}{cp:FuncId->Option CF}(d:∀base n,RunOK P base P.globals.size<|run cp n){f:FuncId}{args a:List Value}{H:Heap}{φ:Map}{w:World}{R:Value->Heap->Prop}
  (j:HRel φ H.length P.globals.size H w) (b:LRel φ args a) (h:Ev cp H.length f args H R) :
  Calls P f a.toArray w λe w'=>∃v g H' c,R v H'/\e=.returned g/\Eff φ H.length P.globals.size H.length H w c H' w'/\VRel c v g:=by
 have⟨N,v,H',i,k⟩:=h;have:=((d H.length N).toRet H.length f args H v H' (Nat.le_refl _) (Nat.le_refl _)<|rW<|i N<|Nat.le_refl _).2 φ w a j b
 grind[Calls.mono]
structure Mv where
 n:Nat
 w:Nat
 b:Nat
 w1:w<=1
 bn:w=1->b<n
def Mv.f(k:Mv)(i:Nat):Nat:=if i<k.w then k.b else k.n+i-k.w
theorem Mv.ge(k:Mv){i:Nat}(h:k.w<=i):k.f i+k.w=k.n+i:=by grind[f]
theorem Mv.lt(k:Mv){i:Nat}(h:i<k.w):k.f i<k.n/\i=0:=by grind[f,w1,bn]
theorem Mv.or(k:Mv)(i:Nat):(k.w<=i/\k.f i+k.w=k.n+i)\/(i<k.w/\i=0/\k.f i<k.n):=by
 by_cases h:k.w<=i
 .grind[ge]
 .exact .inr ⟨byO,(k.lt byO).2,(k.lt byO).1⟩
theorem Mv.inj(k:Mv){i j:Nat}(h:k.f i=k.f j):i=j:=by have:=k.or i;have:=k.or j;omega
def Mv.le(k:Mv)(lo' lo:Nat):Prop:=k.w<=lo/\lo'+k.w<=k.n+lo
inductive Sh (k:Mv):Value->Value->Prop where
 | bool (b:Bool):Sh k (.bool b)<|.bool b
 | int (i:IntKind) (n:Int):Sh k (.int i n)<|.int i n
 | float (i:FloatKind) (n:Nat):Sh k (.float i n)<|.float i n
 | string (s:ByteArray):Sh k (.string s)<|.string s
 | nilPtr:Sh k (.pointer none)<|.pointer none
 | ptr (i o:Nat) (sp:Option Nat):Sh k (.pointer<|some ⟨i,o,sp⟩)<|.pointer<|some ⟨k.f i,o,sp⟩
 | nilSlice (l c:Nat):Sh k (.slice none l c)<|.slice none l c
 | slice (i o l c:Nat) (sp:Option Nat):Sh k (.slice (some ⟨i,o,sp⟩) l c)<|.slice (some ⟨k.f i,o,sp⟩) l c
 | nilMap:Sh k (.map none)<|.map none
 | func (f:FuncId) (a b a' b':Array Value) (ha:a.size=a'.size) (hb:b.size=b'.size)
   (ra:∀(j:Nat) x y,a[j]?=some x->a'[j]?=some y->Sh k x y) (rb:∀(j:Nat) x y,b[j]?=some x->b'[j]?=some y->Sh k x y) :
   Sh k (.func (.func f) a b)<|.func (.func f) a' b'
 | nilFunc:Sh k .nilFunc .nilFunc
 | iface (t:TypeId) (v v':Value) (h:Sh k v v'):Sh k (.iface t v)<|.iface t v'
 | nilIface:Sh k .nilIface .nilIface
 | agg (a a':Array Value) (ha:a.size=a'.size) (ra:∀(j:Nat) x y,a[j]?=some x->a'[j]?=some y->Sh k x y):Sh k (.agg a)<|.agg a'
 | tuple (a a':Array Value) (ha:a.size=a'.size) (ra:∀(j:Nat) x y,a[j]?=some x->a'[j]?=some y->Sh k x y):Sh k (.tuple a)<|.tuple a'
def LSh(k:Mv)(l l':List Value):Prop:=l.length=l'.length/\∀(j:Nat) x y,l[j]?=some x->l'[j]?=some y->Sh k x y
section
variable {k:Mv}
theorem LSh.nil:LSh k [] []:=⟨rfl,λj x y a=>by simp at a⟩
theorem LSh.cons{x y:Value}{l l':List Value}(h:Sh k x y)(r:LSh k l l'):LSh k (x::l) (y::l'):=by
 refine⟨by simp[r.1],λj a b c d=>?_⟩;cases j with
 | zero=>simp_all
 | succ j=>exact r.2 j a b c d
theorem LSh.of_cons{x:Value}{l l':List Value}(r:LSh k (x::l) l'):∃y r',l'=y::r'/\Sh k x y/\LSh k l r':=by
 cases l' with
 | nil=>have:=r.1;simp at this
 | cons y r'=>
  refine⟨y,r',rfl,r.2 0 x y rfl rfl,?_,λj a b c d=>r.2 (j+1) a b (by simp_all) (by simp_all)⟩;have:=r.1;simp_all
theorem LSh.of_nil{l':List Value}(r:LSh k [] l'):l'=[]:=by
 cases l' with
 | nil=>rfl
 | cons y r'=>have:=r.1;simp at this
theorem LSh.append{a b a' e:List Value}(h:LSh k a a')(g:LSh k b e):LSh k (a++b)<|a'++e:=by
 refine⟨by simp[h.1,g.1],λj x y c d=>?_⟩;by_cases f:j<a.length
 .rw[ax₀ f]at c
  rw[ax₀<|h.1▸f]at d;exact h.2 j x y c d
 .rw[aw₀ byO]at c
  rw[aw₀ (by rw[<-h.1];omega)]at d;exact g.2 (j-a.length) x y c (by rw[h.1];exact d)
theorem LSh.take{a a':List Value}(h:LSh k a a')(n:Nat):LSh k (a.take n)<|a'.take n:=by
 refine⟨by simp[h.1],λj x y b c=>?_⟩;rw[List.getElem?_take]at b c;split at b
 next d=>rw[if_pos d]at c;exact h.2 j x y b c
 .simp at b
theorem LSh.drop{a a':List Value}(h:LSh k a a')(n:Nat):LSh k (a.drop n)<|a'.drop n:=by refine⟨by simp[h.1],λj x y b c=>?_⟩;rw[List.getElem?_drop]at b c;exact h.2 _ x y b c
theorem LSh.arr{a a':Array Value}:LSh k a.toList a'.toList↔(a.size=a'.size/\∀(j:Nat) x y,a[j]?=some x->a'[j]?=some y->Sh k x y):=by simp[LSh]
theorem LSh.putCells{c c' v v':List Value}(h:LSh k c c')(g:LSh k v v')(off:Nat):LSh k (putCells c off v)<|putCells c' off v':=by
 unfold Abs.putCells;rw[<-g.1]
 grind[append,take,drop]
theorem LSh.set{S c:List Value}(h:LSh k S c){v d:Value}(f:Sh k v d)(j:Nat):LSh k (S.set j v)<|c.set j d:=by
 refine⟨by simp[h.1],λi x y a b=>?_⟩;rw[List.getElem?_set]at a b;split at a
 .simp_all
 next e=>rw[if_neg e]at b;exact h.2 i x y a b
theorem Sh.cells{v c:Value}(h:Sh k v c):LSh k v.cells.toList c.cells.toList:=by
 have d:∀{v c:Value},Sh k v c->LSh k [v] [c]:=λh=>LSh.cons h LSh.nil;cases h with
 | agg a a' e g=>exact LSh.arr.2 ⟨e,g⟩
 | bool b=>exact d<|.bool b
 | int k n=>exact d<|.int k n
 | float k n=>exact d<|.float k n
 | string s=>exact d<|.string s
 | nilPtr=>exact d .nilPtr
 | ptr i o sp=>exact d<|.ptr i o sp
 | nilSlice l c=>exact d<|.nilSlice l c
 | slice i o l c sp=>exact d<|.slice i o l c sp
 | nilMap=>exact d .nilMap
 | func f a b a' j e m g p=>exact d<|.func f a b a' j e m g p
 | nilFunc=>exact d .nilFunc
 | iface t v q h=>exact d<|.iface t v q h
 | nilIface=>exact d .nilIface
 | tuple a a' e g=>exact d<|.tuple a a' e g
theorem Sh.oneCell{v c:Value}(h:Sh k v c):c.oneCell'=v.oneCell':=by cases h<;>rfl
theorem LSh.oneCells{l l':List Value}(r:LSh k l l'):Abs.oneCells l'=Abs.oneCells l:=by
 unfold Abs.oneCells
 induction l generalizing l' with
 | nil=>rw[r.of_nil]
 | cons a l ih=>
  grind[of_cons,Sh.oneCell]
theorem mS{v:Value}(h:bN v=true):Sh k v v:=by
 unfold bN at h;split at h
 .exact .bool _
 .exact .int _ _
 .exact .string _
 .exact .nilPtr
 .exact .nilSlice _ _
 .exact .nilMap
 .exact .nilFunc
 .exact .nilIface
 .exact .float _ _
 next f a b=>
  simp at h;exact .func f a b a b rfl rfl (λj x y c=>by simp[h.1]at c) (λj x y c=>by simp[h.2]at c)
 .simp at h
theorem eU{l:List Value}(h:l.all bN=true):LSh k l l:=by refine⟨rfl,λj x y a b=>?_⟩;rw[a]at b;cases b;exact mS<|List.all_eq_true.1 h _<|List.mem_of_getElem? a
theorem gU{v:Value}(h:fX v=true):Sh k v v:=by
 unfold fX at h;split at h
 next cs=>have⟨a,b⟩:=LSh.arr.1<|eU (k:=k) h;exact .agg cs cs a b
 next cs=>have⟨a,b⟩:=LSh.arr.1<|eU (k:=k) h;exact .tuple cs cs a b
 .exact .iface _ _ _<|mS h
 .exact mS h
structure HSh (k:Mv)(H B:Heap):Prop where
 len:B.length+k.w=k.n+H.length/\k.w<=H.length
 get:∀i c,H.get i=some c->∃c',B.get (k.f i)=some c'/\LSh k c c'
theorem HSh.cells{H B:Heap}(h:HSh k H B){i b n:Nat}{l:List Value}(a:H.cells i b n=some l):∃l',B.cells (k.f i) b n=some l'/\LSh k l l':=by
 unfold Heap.cells at a ⊢;split at a
 next c g=>
  have⟨c',e,f⟩:=h.get i c g;rw[e];simp only;split at a
  next d=>
   rw[if_pos (by rw[<-f.1];exact d)]
   grind[LSh.take,LSh.drop]
  .simp at a
 .simp at a
def wK:LOp->Bool
 | .build zero _=>zero.all bN
 | .tas _ zero=>zero.all bN
 | _=>true
theorem C6{b:BinOp}{x y x' y' v:Value}(d:Sh k x x')(e:Sh k y y')(a:bD b x y=some v):bD b x' y'=some v/\Sh k v v:=by
 have c:bN v=true:=by
  unfold bD at a;split at a
  .unfold gz bQ at a
   repeat' split at a
   all_goals (first|(simp at a;done)|(simp at a;subst a;rfl))
  .unfold vI at a
   repeat' split at a
   all_goals (first|(simp at a;done)|(simp at a;subst a;rfl))
  .simp at a
 refine⟨?_,mS c⟩;cases d<;>cases e<;>first|exact a|(simp[bD]at a)
theorem Pa{v a:Value}(h:Sh k v a)(y:Nat):toB a y=toB v y:=by cases h<;>rfl
theorem vY{l l':List Value}(h:LSh k l l')(y:Nat):l'.head?.bind (toB · y)=l.head?.bind (toB · y):=by
 cases l with
 | nil=>rw[h.of_nil]
 | cons x r=>
  obtain⟨x',r',rfl,a,b⟩:=h.of_cons;simp[Pa a]
theorem wj{l l':List Value}(h:LSh k l l'):LSh k l.tail l'.tail:=by have:=h.drop 1;simpa using this
theorem ij{len cap:Nat}{lo b c:Bool}{a a':List Value}(h:LSh k a a'):bounds len cap lo b c a'=bounds len cap lo b c a:=by have d:=vY h;have e:=vY<|wj h;have f:=vY<|wj<|wj h;unfold bounds;cases lo<;>cases b<;>cases c<;>simp only[ah₀,if_false,if_true,d,e,f]
theorem pG:∀(ps:List<|Nat×Nat) (b a vs c l:List Value),LSh k b a->LSh k vs c->buildL b ps vs=some l->∃l',buildL a ps c=some l'/\LSh k l l'
 | [],b,a,[],c,l,e,g,h=>by
  simp[buildL]at h;subst h;rw[g.of_nil];exact⟨a,rfl,e⟩
 | (i,sz)::ps,b,a,v::vs,c,l,e,g,h=>by
  obtain⟨o,d,rfl,j,m⟩:=g.of_cons;simp only[buildL]at h ⊢;split at h
  next n=>
   have f:=j.cells.1;simp at f;rw[if_pos ⟨byO,by rw[<-e.1];exact n.2⟩];exact pG ps _ _ vs d l (e.putCells j.cells i) m h
  .simp at h
 | [],_,_,_::_,_,_,_,_,h=>by simp[buildL]at h
 | _::_,_,_,[],_,_,_,_,h=>by simp[buildL]at h
theorem Cd{n:Nat}{x y x' y':Value}{b:Bool}(h:jc n x y=some b)(a:Sh k x x')(c:Sh k y y'):x'=x/\y'=y:=by unfold jc at h;split at h<;>simp at h<;>(cases a;cases c;exact⟨rfl,rfl⟩)
theorem rH:∀{i:List Nat} {x y x' y':List Value} {b:Bool},ag i x y=some b->LSh k x x'->LSh k y y'->x'=x/\y'=y
 | [],[],[],x',y',b,_,d,f=>⟨d.of_nil,f.of_nil⟩
 | n::i,a::x,c::y,x',y',b,h,d,f=>by
  obtain⟨a',r,rfl,j,e⟩:=d.of_cons;obtain⟨c',s,rfl,l,g⟩:=f.of_cons;simp[ag]at h;split at h
  next p q m o=>
   obtain⟨rfl,rfl⟩:=Cd m j l;obtain⟨rfl,rfl⟩:=rH o e g;exact⟨rfl,rfl⟩
  .simp at h
 | [],[],_::_,_,_,_,h,_,_=>by simp[ag]at h
 | [],_::_,_,_,_,_,h,_,_=>by simp[ag]at h
 | _::_,[],_,_,_,_,h,_,_=>by simp[ag]at h
 | _::_,_::_,[],_,_,_,h,_,_=>by simp[ag]at h
theorem rF:∀{l l':List Value} {c:List UInt8},LSh k l l'->bytesOf l=some c->l'=l
 | [],l',c,h,_=>h.of_nil
 | v::r,l',c,h,b=>by
  obtain⟨j,r',rfl,g,f⟩:=h.of_cons;unfold bytesOf at b;split at b
  next e=>simp at e
  next n i e=>
   simp at e;obtain⟨rfl,rfl⟩:=e;cases g;simp at b;have⟨a,d,_⟩:=b;rw[rF f d]
  .simp at b
theorem BT(b:Bool):∀{l l':List Value} {x v:Value},LSh k l l'->(∃i n,x=.int i n)->l.foldlM (pS b) x=some v->l'.foldlM (pS b) x=some v/\∃i n,v=.int i n
 | [],l',x,v,h,d,c=>by rw[h.of_nil];simp at c;subst c;exact⟨rfl,d⟩
 | a::l,l',x,v,h,d,c=>by
  obtain⟨a',r',rfl,f,g⟩:=h.of_cons;obtain⟨i,n,rfl⟩:=d;simp[List.foldlM_cons,Option.bind_eq_bind,ae₀]at c ⊢;have⟨m,e,c⟩:=c;cases f<;>simp[pS]at e;subst e;have:=BT b g ⟨_,_,rfl⟩ c;exact⟨⟨_,rfl,this.1⟩,this.2⟩
theorem LSh.one{vs vs':List Value}(h:LSh k vs vs'){x:Value}(e:vs=[x]):∃x',vs'=[x']/\Sh k x x':=by grind[of_cons,of_nil]
theorem LSh.two{vs c:List Value}(h:LSh k vs c){x y:Value}(e:vs=[x,y]):∃x' y',c=[x',y']/\Sh k x x'/\Sh k y y':=by subst e;obtain⟨a,r,rfl,d,f⟩:=h.of_cons;obtain⟨b,r',rfl,g,i⟩:=f.of_cons;rw[i.of_nil];exact⟨a,b,rfl,d,g⟩
set_option maxHeartbeats 2000000 in
theorem JS{l:LOp}(T:wK l=true){vs K:List Value}(q:LSh k vs K){H B:Heap}(M:HSh k H B){v:Value}(d:aJ l vs H=some v):∃W,aJ l K B=some W/\Sh k v W:=by
 unfold aJ at d;split at d
 .obtain⟨x',rfl,g⟩:=q.one rfl;simp at d;subst d;exact⟨x',rfl,g⟩
 .obtain⟨x',y',rfl,g,p⟩:=q.two rfl
  obtain⟨a,b⟩:=C6 g p d;exact⟨v,a,b⟩
 .obtain⟨x',y',rfl,g,p⟩:=q.two rfl;cases g;cases p;simp at d;subst d;exact⟨_,rfl,.bool _⟩
 .obtain⟨x',y',rfl,g,p⟩:=q.two rfl
  cases g with
  | agg a a' w A=>
   cases p with
   | agg b R s Q=>
    simp only[aa₀]at d;obtain⟨r,U,rfl⟩:=d;obtain⟨X,Y⟩:=rH U (LSh.arr.2 ⟨w,A⟩)<|LSh.arr.2 ⟨s,Q⟩;exact⟨_,by simp only[aJ,X,Y,U];rfl,.bool _⟩
 .obtain⟨x',y',rfl,g,p⟩:=q.two rfl;cases p;cases g<;>(simp only[ab₀]at d;subst d;exact⟨_,rfl,.bool _⟩)
 .obtain⟨x',y',rfl,g,p⟩:=q.two rfl;cases p;cases g<;>(simp only[ab₀]at d;subst d;exact⟨_,rfl,.bool _⟩)
 .obtain⟨x',rfl,g⟩:=q.one rfl;cases g;simp at d;subst d;exact⟨_,rfl,.bool _⟩
 .obtain⟨x',rfl,g⟩:=q.one rfl;cases g;simp only[ab₀]at d;subst d;exact⟨_,rfl,.int _ _⟩
 .obtain⟨x',rfl,g⟩:=q.one rfl;cases g;simp[bQ]at d;subst d;exact⟨_,rfl,.int _ _⟩
 .obtain⟨x',rfl,g⟩:=q.one rfl;cases g;simp[ab₀]at d;subst d;exact⟨_,rfl,.int _ _⟩
 .obtain⟨x',rfl,g⟩:=q.one rfl;cases g;simp at d;subst d;exact⟨_,rfl,.string _⟩
 .obtain⟨x',rfl,g⟩:=q.one rfl;cases g;simp at d;subst d;exact⟨_,rfl,.string _⟩
 .obtain⟨x',rfl,g⟩:=q.one rfl
  cases g;simp only[aa₀,ae₀]at d;obtain⟨bs,⟨c,C,s⟩,rfl⟩:=d;obtain⟨c',p,I⟩:=M.cells C;obtain rfl:=rF I s;exact⟨_,by simp only[aJ,p,ao₀,s];rfl,.string _⟩
 .obtain⟨x',rfl,g⟩:=q.one rfl;cases g;simp at d;subst d;exact⟨_,rfl,.ptr _ _ _⟩
 .obtain⟨x',rfl,g⟩:=q.one rfl
  cases g with
  | func f a b a' R w s A Q=>simp at d;subst d;exact⟨_,rfl,.func _ _ _ _ _ w s A Q⟩
 .obtain⟨x',rfl,g⟩:=q.one rfl;cases g;simp at d;subst d;exact⟨_,rfl,.ptr _ _ _⟩
 .obtain⟨x',rfl,g⟩:=q.one rfl
  cases g with
  | agg a a' w A=>
   rename_i J n agg a;cases agg
   .simp[ah₀,if_false]at d
    have D:J<a'.size:=by rw[<-w];exact(Array.getElem?_eq_some_iff.1 d).1
    have g:a'[J]?=some a'[J]:=Array.getElem?_eq_getElem D;exact⟨_,by simp only[aJ,ah₀,if_false];exact g,A _ _ _ d g⟩
   .simp only[if_true]at d
    split at d
    next O=>
     simp at d;subst d;refine⟨_,by simp only[aJ,if_true];rw[if_pos byO],.agg _ _ (by simp[w]) λj x y F G=>?_⟩;rw[Array.getElem?_extract]at F G;split at F
     .split at G
      .exact A _ _ _ F G
      .simp at G
     .simp at F
    .simp at d
 .obtain⟨x',y',rfl,g,p⟩:=q.two rfl
  cases g;cases p;split at d
  next s=>simp at d;subst d;exact⟨_,by simp only[aJ];rw[if_pos s],.ptr _ _ _⟩
  .simp at d
 .obtain⟨x',y',rfl,g,p⟩:=q.two rfl
  cases g;cases p;split at d
  next s=>simp at d;subst d;exact⟨_,by simp only[aJ];rw[if_pos s],.ptr _ _ _⟩
  .simp at d
 .obtain⟨x',y',rfl,g,p⟩:=q.two rfl
  cases p;cases g with
  | agg a a' w A=>
   rename_i len sz agg a kk i;split at d
   next s=>
    cases agg
    .simp[ah₀,if_false]at d
     have D:i.toNat*sz<a'.size:=by rw[<-w];exact(Array.getElem?_eq_some_iff.1 d).1
     have g:a'[i.toNat*sz]?=some a'[i.toNat*sz]:=Array.getElem?_eq_getElem D;exact⟨_,by simp only[aJ,ah₀,if_false];rw[if_pos s];exact g,A _ _ _ d g⟩
    .simp only[if_true]at d
     split at d
     next O=>
      simp at d;subst d;refine⟨_,by simp only[aJ,if_true];rw[if_pos s,if_pos byO],.agg _ _ (by simp[w]) λj x y F G=>?_⟩;rw[Array.getElem?_extract]at F G;split at F
      .split at G
       .exact A _ _ _ F G
       .simp at G
      .simp at F
     .simp at d
   .simp at d
 .obtain⟨x',y',rfl,g,p⟩:=q.two rfl
  cases g;cases p;split at d
  next s=>
   simp only[aa₀]at d;obtain⟨u,P,rfl⟩:=d;exact⟨_,by simp only[aJ];rw[if_pos s,P];rfl,.int _ _⟩
  .simp at d
 .obtain⟨x',rfl,g⟩:=q.one rfl
  cases g;rename_i n agg b o;cases agg
  .simp only[ah₀,if_false,ae₀]at d
   obtain⟨c,C,N⟩:=d;obtain⟨c',p,I⟩:=M.cells C;cases c with
   | nil=>simp at N
   | cons x r=>
    obtain⟨y,r',rfl,S,h5⟩:=I.of_cons;simp at N;subst N;exact⟨y,by simp only[aJ,ah₀,if_false,p];rfl,S⟩
  .simp only[if_true,aa₀]at d
   obtain⟨c,C,rfl⟩:=d;obtain⟨c',p,I⟩:=M.cells C;exact⟨.agg c'.toArray,by simp only[aJ,if_true,p];rfl,.agg _ _ (by simp[I.1]) (by simpa using I.2)⟩
 .obtain⟨x',rfl,g⟩:=q.one rfl;cases g<;>(simp at d;subst d;exact⟨_,rfl,.int _ _⟩)
 .obtain⟨x',rfl,g⟩:=q.one rfl;cases g;simp only[ab₀]at d;subst d;exact⟨_,rfl,.int _ _⟩
 .obtain⟨x',rfl,g⟩:=q.one rfl;simp at d;subst d;exact⟨_,rfl,.int _ _⟩
 .obtain⟨x',r',rfl,g,p⟩:=q.of_cons
  cases g;simp only[aa₀]at d;obtain⟨⟨l,h,m⟩,s,rfl⟩:=d;exact⟨_,by simp only[aJ,ij p,s];rfl,.nilSlice _ _⟩
 .obtain⟨x',r',rfl,g,p⟩:=q.of_cons
  cases g;simp only[aa₀]at d;obtain⟨⟨l,h,m⟩,s,rfl⟩:=d;exact⟨_,by simp only[aJ,ij p,s];rfl,.slice _ _ _ _ _⟩
 .obtain⟨x',r',rfl,g,p⟩:=q.of_cons
  cases g;split at d
  next V=>
   simp only[aa₀]at d;obtain⟨⟨l,h,m⟩,s,L⟩:=d;rename_i sz lo hi Z b o z len cap args;by_cases C:(Z&&cap != 0)=true
   .simp only[C,if_true]at L
    subst L;exact⟨_,by simp only[aJ];rw[if_pos V,ij p,s];simp only[Option.map_some,C,if_true],.slice _ _ _ _ _⟩
   .simp only[C]at L
    subst L;exact⟨_,by simp only[aJ];rw[if_pos V,ij p,s];simp only[Option.map_some,C];rfl,.slice _ _ _ _ _⟩
  .simp at d
 .obtain⟨x',r',rfl,g,p⟩:=q.of_cons
  cases g;simp only[aa₀]at d;obtain⟨⟨l,h,m⟩,s,rfl⟩:=d;exact⟨_,by simp only[aJ,ij p,s];rfl,.slice _ _ _ _ _⟩
 .obtain⟨x',r',rfl,g,p⟩:=q.of_cons
  cases g;simp only[aa₀]at d;obtain⟨⟨l,h,m⟩,s,rfl⟩:=d;exact⟨_,by simp only[aJ,ij p,s];rfl,.string _⟩
 .obtain⟨x',rfl,g⟩:=q.one rfl
  cases g with
  | tuple a a' w A=>
   rename_i i a;have D:i<a'.size:=by rw[<-w];exact(Array.getElem?_eq_some_iff.1 d).1
   have g:a'[i]?=some a'[i]:=Array.getElem?_eq_getElem D;exact⟨_,g,A _ _ _ d g⟩
 .simp only[aa₀]at d
  obtain⟨c,C,rfl⟩:=d;obtain⟨c',g,p⟩:=pG _ _ _ _ _ _ (eU (by simpa[wK]using T)) q C;exact⟨.agg c'.toArray,by simp only[aJ,g];rfl,.agg _ _ (by simp[p.1]) (by simpa using p.2)⟩
 .simp at d;subst d
  rename_i f n;exact⟨_,rfl,.func _ _ _ _ _ (by simp[q.1]) (by simp[q.1]) (by simpa using(q.take n).2) (by simpa using(q.drop n).2)⟩
 .obtain⟨x',rfl,g⟩:=q.one rfl;simp at d;subst d;exact⟨_,rfl,.iface _ _ _ g⟩
 .obtain⟨x',r',rfl,g,p⟩:=q.of_cons
  split at d
  .cases g
   obtain⟨a,i,n,rfl⟩:=BT _ p ⟨_,_,rfl⟩ d;exact⟨_,a,.int _ _⟩
  .simp at d
 .obtain⟨x',r',rfl,g,p⟩:=q.of_cons
  obtain⟨a',R,rfl,I,S⟩:=p.two rfl;cases g;simp at d;subst d;rename_i c _ _ _;refine⟨_,rfl,?_⟩;split<;>assumption
 .obtain⟨x',rfl,g⟩:=q.one rfl
  cases g with
  | iface t u u' P=>
   cases P with
   | agg a a' w A=>
    split at d
    next e=>
     simp at d;subst d;exact⟨.tuple #[.agg a',.bool true],by simp only[aJ];rw[if_pos e],.tuple _ _ rfl (LSh.arr.1<|LSh.cons (.agg _ _ w A)<|LSh.cons (.bool true) LSh.nil).2⟩
    .simp at d
 .obtain⟨x',rfl,g⟩:=q.one rfl
  cases g;simp at d;subst d;exact⟨_,rfl,.tuple _ _ rfl (LSh.arr.1<|LSh.cons (.agg _ _ rfl (LSh.arr.1<|eU (by simpa[wK]using T)).2)<|LSh.cons (.bool false) LSh.nil).2⟩
 .simp at d
end
section
variable {k:Mv}
def sW:HOp->Bool
 | .alloc z | .mkSl z | .bSl z _ _=>z.all bN
 | _=>true
def dA:E->Bool
 | .var _=>true
 | .cst v=>fX v
 | .nil=>true
 | .cons a b=>dA a&&dA b
 | .node o a=>wK o&&dA a
 | .pick c a b=>dA c&&(dA a&&dA b)
def wL(pc:PC):Bool:=pc.all λx=>dA x.1
def bj:Stm->Bool
 | .skip=>true
 | .sets l chk=>l.all (λx=>dA x.2)&&chk.all dA
 | .hv l chk pc _ o a=>l.all (λx=>dA x.2)&&(chk.all dA&&(wL pc&&(sW o&&dA a)))
 | .dist a b=>dA a&&dA b
 | .seq a b=>bj a&&bj b
 | .cond c a b=>dA c&&(bj a&&bj b)
 | .block _ b=>bj b
 | .loop b=>bj b
 | .exit _=>true
 | .ret=>true
 | .scope b alts=>bj b&&bj alts
 | .alt _ s r=>bj s&&bj r
def Gc:CK->Bool
 | .dfr mid _ rest=>bj mid&&bj rest
 | _=>true
def aL(cf:CF):Bool:=bj cf.body&&(cf.res.all dA&&Gc cf.kind)
theorem eR{H:Heap}{i:Nat}{c:List Value}:H.get i=some c↔H[i]?=some (some c):=by grind[Heap.get]
structure MSh (k:Mv)(B:Heap)(H' B':Heap):Prop where
 sh:HSh k H' B'
 pre:∀i,i<k.n->B'[i]?=B[i]?
theorem HSh.newf{H B:Heap}(h:HSh k H B):B.length=k.f H.length:=by have:=h.len;have:=k.or H.length;omega
theorem MSh.refl{H B:Heap}(h:HSh k H B):MSh k B H B:=⟨h,λ_ _=>rfl⟩
theorem MSh.trans{B e a c b:Heap}(h:MSh k B e a)(g:MSh k a c b):MSh k B c b:=⟨g.sh,λi d=>(g.pre i d).trans<|h.pre i d⟩
theorem HSh.push{H B:Heap}(h:HSh k H B){c c':List Value}(j:LSh k c c'):MSh k B (H++[some c])<|B++[some c']:=by
 have m:=h.len;refine⟨⟨by grind,λi d a=>?_⟩,λi b=>?_⟩
 .have l:=k.or i
  rw[eR]at a;by_cases b:i<H.length
  .rw[ax₀ b]at a
   have⟨e,f,g⟩:=h.get i d<|eR.2 a
   grind[eR]
  grind[eR]
 grind
theorem HSh.setB{H B:Heap}(h:HSh k H B){i:Nat}(o:k.w<=i){c c':Option<|List Value}(g:∀d,c=some d->∃a,c'=some a/\LSh k d a):MSh k B (H.set i c)<|B.set (k.f i) c':=by
 have n:=h.len;have l:=k.or i;refine⟨⟨by simp_all,λj d b=>?_⟩,λj m=>?_⟩
 .rw[eR,List.getElem?_set]at b
  split at b
  .grind[eR]
  .have⟨a,e,f⟩:=h.get j d<|eR.2 b
   grind[eR,Mv.inj]
 grind
theorem HSh.put{H B H':Heap}(h:HSh k H B){lo lo' i off:Nat}(hlo:k.le lo' lo){vs vs':List Value}(hv:LSh k vs vs')(hp:H.put lo i off vs=some H'):∃B',B.put lo' (k.f i) off vs'=some B'/\MSh k B H' B':=by
 unfold Heap.put at hp ⊢;split at hp
 next c hc=>
  have⟨c',h1,h2⟩:=h.get i c hc;rw[h1];split at hp
  next hle=>
   simp only;have hf:=k.or i;rw[if_pos ⟨by grind[Mv.le],by rw[<-hv.1,<-h2.1];exact hle.2⟩]
   grind[Mv.le,setB,LSh.putCells]
  .simp at hp
 .simp at hp
theorem LSh.replicate{z:List Value}(hz:LSh k z z):∀n,LSh k (bH z n)<|bH z n
 | 0=>by grind[bH,nil]
 | n+1=>by
  have:=LSh.replicate hz n
  grind[bH,append]
theorem LSh.bytes(l:List UInt8):LSh k (l.map λb=>Value.int .u8 b.toNat)<|l.map λb=>Value.int .u8 b.toNat:=by
 induction l with
 | nil=>exact LSh.nil
 | cons a l c=>exact LSh.cons (.int _ _) c
theorem kP{lo p sz n:Nat}(f:k.le p lo){s y:Value}(F:Sh k s y){new new':List Value}(u:LSh k new new'){H B:Heap}(b:HSh k H B){v:Value}{H':Heap}(h:aZ lo sz s new n H=some (v,H')):∃A r,aZ p sz y new' n B=some (A,r)/\Sh k v A/\MSh k B H' r:=by
 unfold aZ at h;cases F with
 | nilSlice len cap=>
  simp only at h;split at h
  next a=>
   simp at h;obtain⟨rfl,rfl⟩:=h
   exact⟨_,B,by unfold aZ;simp only;rw[if_pos a],.nilSlice _ _,.refl b⟩
  next a=>
   split at h
   .simp at h
   next t=>
    split at h
    .rename_i C;simp at h;obtain⟨rfl,rfl⟩:=h
     refine⟨_,_,by unfold aZ;simp only;rw[if_neg a,if_neg t,if_pos C],?_,b.push u⟩;rw[b.newf];exact .slice _ _ _ _ _
    .simp at h
 | slice i o len cap sp=>
  simp only at h;split at h
  next a=>
   split at h
   next w=>
    simp only[aa₀]at h;have⟨X,l,e⟩:=h;simp at e;obtain⟨rfl,rfl⟩:=e;have⟨r,g,j⟩:=b.put f u l;exact⟨_,r,by unfold aZ;simp only;rw[if_pos a,if_pos w,g];rfl,.slice _ _ _ _ _,j⟩
   .simp at h
  next a=>
   split at h
   .simp at h
   next t=>
    cases sp with
    | none=>
     simp only[aa₀]at h;have⟨x,l,e⟩:=h;simp at e;obtain⟨rfl,rfl⟩:=e;have⟨q,g,j⟩:=b.cells l;refine⟨_,_,by unfold aZ;simp only;rw[if_neg a,if_neg t,g];rfl,?_,b.push<|j.append u⟩;rw[b.newf];exact .slice _ _ _ _ _
    | some z=>
     simp only at h;split at h
     next G=>
      simp only[aa₀]at h;have⟨x,l,e⟩:=h;simp at e;obtain⟨rfl,rfl⟩:=e;have⟨q,g,j⟩:=b.cells l;have m:=b.setB (i:=i) (by unfold Mv.le at f;omega) (c:=none) (c':=none) (λd D=>by simp at D);have I:=k.or i;refine⟨_,_,by unfold aZ;simp only;rw[if_neg a,if_neg t,if_pos ⟨G.1,by unfold Mv.le at f;omega⟩,g];rfl,?_,m.trans<|m.sh.push<|j.append u⟩;rw[b.newf];exact .slice _ _ _ _ _
     .simp at h
 | _=>simp at h
def CSh(k:Mv)(callA callB:dq):Prop:=
 ∀lo lo' f args args' H B v H',k.le lo' lo->LSh k args args'->HSh k H B->callA lo f args H=some (v,H') ->
  ∃v' B',callB lo' f args' B=some (v',B')/\Sh k v v'/\MSh k B H' B'
def RSh(k:Mv):Value ⊕ Value->Value ⊕ Value->Prop
 | .inl v,.inl u=>Sh k v u
 | .inr v,.inr u=>Sh k v u
 | _,_=>False
def CShR(k:Mv)(cA cB:CallR):Prop:=
 ∀lo lo' f args args' H B r H',k.le lo' lo->LSh k args args'->HSh k H B->cA lo f args H=some (r,H') ->
  ∃r' B',cB lo' f args' B=some (r',B')/\RSh k r r'/\MSh k B H' B'
theorem CShR.toRet{c d:CallR}(h:CShR k c d):CSh k c.ret d.ret:=λlo b f args a H B v H' m n o e=>by
 have⟨r',i,j,g,l⟩:=h lo b f args a H B _ H' m n o<|nZ e;cases r' with
 | inl u=>exact⟨u,i,rW j,g,l⟩
 | inr u=>exact g.elim
theorem CShR.toPan{c d:CallR}(h:CShR k c d):CSh k c.pan d.pan:=λlo b f args a H B v H' m n o e=>by
 have⟨r',i,j,g,l⟩:=h lo b f args a H B _ H' m n o<|sU e;cases r' with
 | inr u=>exact⟨u,i,zj j,g,l⟩
 | inl u=>exact g.elim
set_option maxHeartbeats 2000000 in
theorem Im{callA s:dq}(t:CSh k callA s){lo z:Nat}(m:k.le z lo){o:HOp}(K:sW o=true){vs D:List Value}(q:LSh k vs D){H B:Heap}(l:HSh k H B){v:Value}{H':Heap}(g:hsem callA lo o vs H=some (v,H')) :
  ∃x r,hsem s z o D B=some (x,r)/\Sh k v x/\MSh k B H' r:=by
 unfold hsem at g;split at g
 .obtain⟨x',r',rfl,h,j⟩:=q.of_cons
  cases h with
  | func f a b a' O G I M N=>
   rename_i u _ _ _ _;have Q:k.le (if u=true then B.length else z) (if u=true then H.length else lo):=by
    split
    .exact⟨l.len.2,Nat.le_of_eq l.len.1⟩
    .exact m
   exact t _ _ _ _ _ _ _ _ _ Q (((LSh.arr.2 ⟨G,M⟩).append j).append<|LSh.arr.2 ⟨I,N⟩) l g
 .obtain⟨x',r',rfl,h,j⟩:=q.of_cons
  cases h with
  | func f a b a' O G I M N=>
   exact t _ _ _ _ _ _ _ _ _ m (((LSh.arr.2 ⟨G,M⟩).append j).append<|LSh.arr.2 ⟨I,N⟩) l g
 .have:=q.of_nil;subst this
  simp at g;obtain⟨rfl,rfl⟩:=g;refine⟨_,_,rfl,?_,l.push<|eU (by simpa[sW]using K)⟩;rw[l.newf];exact .ptr _ _ _
 .obtain⟨x',rfl,h⟩:=q.one rfl
  simp[ab₀,ad₀]at g;obtain⟨rfl,rfl⟩:=g;refine⟨_,_,rfl,?_,l.push h.cells⟩;rw[l.newf];exact .ptr _ _ _
 .obtain⟨x',y',rfl,h,j⟩:=q.two rfl
  cases h;cases j;split at g
  next p=>
   simp[ab₀,ad₀]at g;obtain⟨rfl,rfl⟩:=g;refine⟨_,_,by simp only[hsem];rw[if_pos p],?_,l.push<|LSh.replicate (eU (by simpa[sW]using K)) _⟩;rw[l.newf];exact .slice _ _ _ _ _
  .simp at g
 .simp only[aa₀]at g
  have⟨c,p,e⟩:=g;simp[ad₀]at e;obtain⟨rfl,rfl⟩:=e;have⟨c',h,j⟩:=pG _ _ _ _ _ _ (LSh.replicate (eU (by simpa[sW]using K)) _) q p;refine⟨_,_,by simp[hsem,h];rfl,?_,l.push j⟩;rw[l.newf];exact .slice _ _ _ _ _
 .obtain⟨x',y',rfl,h,j⟩:=q.two rfl
  cases h;split at g
  next p=>
   simp only[aa₀]at g;have⟨X,F,e⟩:=g;simp[ad₀]at e;obtain⟨rfl,rfl⟩:=e;have⟨r,y,w⟩:=l.put m j.cells F;have L:=j.cells.1;simp[Array.length_toList]at L;exact⟨_,r,by simp only[hsem];rw[if_pos ⟨byO,by rw[j.cells.oneCells];exact p.2⟩,y];rfl,gU (by rfl),w⟩
  .simp at g
 .obtain⟨x',y',rfl,h,j⟩:=q.two rfl
  cases j;split at g
  next p=>
   have⟨x,r,y,w⟩:=kP m h LSh.nil l g;exact⟨x,r,by simp only[hsem];rw[if_pos p,y],w⟩
  .simp at g
 .obtain⟨x',y',rfl,h,j⟩:=q.two rfl
  cases j;simp only[ae₀]at g;have⟨new,J,g⟩:=g;have⟨new',y,w⟩:=l.cells J;split at g
  next p=>
   have⟨x,r,A,C⟩:=kP m h w l g;exact⟨x,r,by simp only[hsem,y,ao₀];rw[if_pos (by rw[w.oneCells];exact p),A],C⟩
  .simp at g
 .obtain⟨x',y',rfl,h,j⟩:=q.two rfl
  cases j;have⟨x,r,A,C⟩:=kP m h (LSh.bytes _) l g;exact⟨x,r,by simp[hsem];exact A,C⟩
 .obtain⟨x',rfl,h⟩:=q.one rfl
  cases h;simp[ab₀,ad₀]at g;obtain⟨rfl,rfl⟩:=g;refine⟨_,_,rfl,?_,l.push<|LSh.bytes _⟩;rw[l.newf];exact .slice _ _ _ _ _
 .unfold k9 at g
  split at g<;>try (simp at g;done)
  obtain⟨x',rfl,h⟩:=q.one rfl;cases h;rename_i i o n c;split at g
  next d P=>
   split at g
   next p=>
    simp[ab₀,ad₀]at g;obtain⟨rfl,rfl⟩:=g;have⟨R,j,_⟩:=l.get i d P;have S:=k.or i;exact⟨_,B,by simp only[hsem,k9,j];rw[if_pos (by unfold Mv.le at m;omega)],.slice _ _ _ _ _,.refl l⟩
   .simp at g
  .simp at g
 .obtain⟨x',y',rfl,h,j⟩:=q.two rfl
  cases h;split at g
  next p=>
   simp[ab₀,ad₀]at g;obtain⟨rfl,rfl⟩:=g;cases j<;>exact⟨_,B,by simp only[hsem];rw[if_pos p],.int _ _,.refl l⟩
  .simp at g
 .obtain⟨x',y',rfl,h,j⟩:=q.two rfl
  cases h;cases j;split at g
  next p=>
   simp[ab₀,ad₀]at g;obtain⟨rfl,rfl⟩:=g;exact⟨_,B,by simp only[hsem];rw[if_pos p],.int _ _,.refl l⟩
  .simp at g
 .obtain⟨x',y',rfl,h,j⟩:=q.two rfl
  cases h;cases j;simp only[ae₀]at g;have⟨new,J,g⟩:=g;have⟨new',y,w⟩:=l.cells J;split at g
  next p=>
   simp only[aa₀]at g;have⟨X,F,e⟩:=g;simp[ad₀]at e;obtain⟨rfl,rfl⟩:=e;have⟨r,A,C⟩:=l.put m w F;exact⟨_,r,by simp only[hsem,y,ao₀];rw[if_pos (by rw[w.oneCells];exact p),A];rfl,.int _ _,C⟩
  .simp at g
 .simp at g
theorem DY{l m:CallR}(c:CShR k l m){lo e:Nat}(i:k.le e lo){o:HOp}{vs g:List Value}(p:LSh k vs g){H B:Heap}(n:HSh k H B){v:Value}{H':Heap}(d:cz l lo o vs H=some (v,H')) :
  ∃q j,cz m e o g B=some (q,j)/\Sh k v q/\MSh k B H' j:=by
 unfold cz at d;split at d
 .obtain⟨x',r',rfl,h,r⟩:=p.of_cons
  cases h with
  | func f a b a' A s w y z=>
   exact c.toPan _ _ _ _ _ _ _ _ _ i (((LSh.arr.2 ⟨s,y⟩).append r).append<|LSh.arr.2 ⟨w,z⟩) n d
 .obtain⟨x',rfl,h⟩:=p.one rfl
  cases h with
  | iface t u C x=>
   simp[ab₀,ad₀]at d;obtain⟨rfl,rfl⟩:=d;exact⟨_,B,rfl,.iface _ _ _ x,.refl n⟩
 .simp at d
theorem mo{H B:Heap}(i:HSh k H B){S p:List Value}(g:LSh k S p):∀(e:E) (vs:List Value),dA e=true->ev S H e=some vs->∃q,ev p B e=some q/\LSh k vs q
 | .var j,vs,_,h=>by
  simp[ev]at h ⊢;split at h
  next v u=>
   simp at h;subst h;have s:j<p.length:=by rw[<-g.1];exact(List.getElem?_eq_some_iff.1 u).1
   have f:p[j]?=some p[j]:=bc₀ s;rw[f];exact⟨_,rfl,LSh.cons (g.2 _ _ _ u f) LSh.nil⟩
  .simp at h
 | .cst v,vs,d,h=>by
  simp only[ev,ab₀]at h ⊢;subst h;exact⟨_,rfl,LSh.cons (gU d) LSh.nil⟩
 | .nil,vs,_,h=>by
  simp only[ev,ab₀]at h ⊢;subst h;exact⟨_,rfl,LSh.nil⟩
 | .cons a b,vs,d,h=>by
  simp[dA,ac₀]at d;simp[ev]at h ⊢;split at h
  next x n=>
   split at h
   next y t=>
    simp[ab₀]at h;subst h;have⟨x',f,l⟩:=mo i g a x d.1 n;have⟨y',m,r⟩:=mo i g b y d.2 t;rw[f,m];exact⟨_,rfl,l.append r⟩
   .simp at h
  .simp at h
 | .node o a,vs,d,h=>by
  simp[dA,ac₀]at d;simp[ev]at h ⊢;split at h
  next x n=>
   split at h
   next y t=>
    simp[ab₀]at h;subst h;have⟨x',f,l⟩:=mo i g a x d.2 n;have⟨y',m,r⟩:=JS d.1 l i t;rw[f];simp only[m];exact⟨_,rfl,LSh.cons r LSh.nil⟩
   .simp at h
  .simp at h
 | .pick c a b,vs,d,h=>by
  simp[dA,ac₀]at d;simp[ev]at h ⊢;split at h
  next n=>
   have⟨x',f,l⟩:=mo i g c _ d.1 n;obtain⟨y,rfl,m⟩:=l.one rfl;cases m;rw[f];exact mo i g a vs d.2.1 h
  next n=>
   have⟨x',f,l⟩:=mo i g c _ d.1 n;obtain⟨y,rfl,m⟩:=l.one rfl;cases m;rw[f];exact mo i g b vs d.2.2 h
  .simp at h
theorem nJ{H B:Heap}(g:HSh k H B){S a:List Value}(i:LSh k S a){e:E}{v:Value}(j:dA e=true)(h:ev1 S H e=some v):∃b,ev1 a B e=some b/\Sh k v b:=by
 unfold ev1 at h ⊢;split at h
 next x l=>
  simp[ab₀]at h;subst h;have⟨x',c,d⟩:=mo g i e _ j l;obtain⟨y,rfl,f⟩:=d.one rfl;rw[c];exact⟨_,rfl,f⟩
 .simp at h
theorem uD{H B:Heap}(f:HSh k H B){S d:List Value}(g:LSh k S d):∀{b:List E} {vs:List Value},b.all dA=true->evList S H b=some vs->∃a,evList d B b=some a/\LSh k vs a
 | [],vs,_,h=>by simp only[evList,ab₀]at h ⊢;subst h;exact⟨_,rfl,LSh.nil⟩
 | e::r,vs,c,h=>by
  simp only[List.all_cons,ac₀]at c;simp[evList]at h ⊢;split at h
  next v p=>
   split at h
   next l o=>
    simp[ab₀]at h;subst h;have⟨q,i,j⟩:=nJ f g c.1 p;have⟨l',m,n⟩:=uD f g c.2 o;rw[i,m];exact⟨_,rfl,LSh.cons j n⟩
   .simp at h
  .simp at h
theorem rZ{H B:Heap}(d:HSh k H B){S c:List Value}(f:LSh k S c):∀{a:List E},a.all dA=true->evChk S H a=true->evChk c B a=true
 | [],_,_=>rfl
 | e::r,b,h=>by
  simp only[List.all_cons,ac₀]at b;simp[evChk,ac₀,Option.isSome_iff_exists]at h ⊢;have⟨⟨x,j⟩,g⟩:=h;have⟨x',i,_⟩:=mo d f e _ b.1 j;exact⟨⟨x',i⟩,rZ d f b.2 g⟩
theorem pN{H B:Heap}(f:HSh k H B){S c:List Value}(g:LSh k S c):∀{l:List<|Nat×E} {vs:List<|Nat×Value},l.all (λx=>dA x.2)=true->evSets S H l=some vs ->
  ∃a,evSets c B l=some a/\∀{T d:List Value},LSh k T d->LSh k (setAll T vs) (setAll d a)
 | [],vs,_,h=>by simp only[evSets,ab₀]at h ⊢;subst h;exact⟨_,rfl,λh=>h⟩
 | (j,e)::r,vs,b,h=>by
  simp only[List.all_cons,ac₀]at b;simp[evSets]at h ⊢;split at h
  next v s=>
   split at h
   next l q=>
    simp[ab₀]at h;subst h;have⟨t,i,m⟩:=nJ f g b.1 s;have⟨l',n,o⟩:=pN f g b.2 q;rw[i,n];exact⟨_,rfl,λp=>o<|p.set m j⟩
   .simp at h
  .simp at h
theorem ry{H B:Heap}(g:HSh k H B){S f:List Value}(i:LSh k S f):∀{d:PC} {b:Bool},wL d=true->holds S H d=some b->holds f B d=some b
 | [],b,_,h=>h
 | (c,j)::r,b,a,h=>by
  simp only[wL,List.all_cons,ac₀]at a;simp[holds]at h ⊢;split at h
  next t n=>
   have⟨o,l,m⟩:=nJ g i a.1 n;cases m;rw[l];simp only;split at h
   next e=>rw[if_pos e];exact ry g i a.2 h
   next e=>rw[if_neg e];exact h
  .simp at h
theorem zM{x x' y y':Value}(i:Sh k x x')(j:Sh k y y')(h:ae x=none\/ae x≠ae y):ae x'=none\/ae x'≠ae y':=by
 have g:∀{v d:Value},Sh k v d->ae d=(ae v).map k.f:=by
  intro v d h;cases h<;>rfl
 rw[g i,g j];cases e:ae x with
 | none=>exact .inl rfl
 | some a=>
  rw[e]at h;refine .inr λc=>?_;cases f:ae y with
  | none=>rw[f]at c;simp at c
  | some b=>
   rw[f]at c h;simp at c;rw[k.inj c]at h;simp at h
def OSh(k:Mv)(B:Heap)(o o':Ex×List Value×Heap):Prop:=o'.1=o.1/\LSh k o.2.1 o'.2.1/\MSh k B o.2.2 o'.2.2
theorem B9{f g:List Value->Heap->Out}(b:∀S a H B o,LSh k S a->HSh k H B->f S H=some o->∃o',g a B=some o'/\OSh k B o o'):∀(n:Nat) (S a:List Value) (H B:Heap) o,LSh k S a->HSh k H B->iter f n S H=some o->∃o',iter g n a B=some o'/\OSh k B o o'
 | 0,S,a,H,B,o,_,_,h=>by simp[iter]at h
 | n+1,S,a,H,B,o,r,q,h=>by
  simp only[iter]at h ⊢;split at h
  next u s w=>
   have⟨⟨x,m,l⟩,d,c,p,e⟩:=b S a H B _ r q w;simp only at c p e;subst c;rw[d];have⟨o',z,A,C,D⟩:=B9 b n u m s l o p e.sh h;exact⟨o',z,A,C,e.trans D⟩
  next i=>
   have⟨o',d,c⟩:=b S a H B _ r q h;refine⟨o',?_,c⟩;rw[d];have⟨x,m,l⟩:=o';cases x with
   | normal=>
    have⟨y,v,t⟩:=o;have:=c.1;simp only at this;subst this;exact(i v t h).elim
   | exit j=>rfl
   | ret=>rfl
theorem F9{f g:List Value->Heap->Out}(c:∀(S q:List Value) (H B:Heap) o,LSh k S q->HSh k H B->f S H=some o->∃o',g q B=some o'/\o'.1=o.1/\LSh k o.2.1 o'.2.1/\MSh k B o.2.2 o'.2.2) :
  ∀(n:Nat) (B:Heap) (x:Ex×List Value×Heap) (y:Ex×List Value×Heap) o,y.1=x.1->LSh k x.2.1 y.2.1->MSh k B x.2.2 y.2.2->hop f n (some x)=some o->∃o',hop g n (some y)=some o'/\o'.1=o.1/\LSh k o.2.1 o'.2.1/\MSh k B o.2.2 o'.2.2
 | 0,B,(x,l,i),(y,r,p),o,e,b,a,h=>by
  simp only at e b a;subst e;cases y with
  | exit j=>
   simp only[hop]at h ⊢;split at h
   .simp at h
   next d=>
    rw[if_neg d];cases h;exact⟨_,rfl,rfl,b,a⟩
  | normal=>simp only[hop]at h ⊢;cases h;exact⟨_,rfl,rfl,b,a⟩
  | ret=>simp only[hop]at h ⊢;cases h;exact⟨_,rfl,rfl,b,a⟩
 | n+1,B,(x,l,i),(y,r,p),o,e,b,a,h=>by
  simp only at e b a;subst e;cases y with
  | exit j=>
   simp only[hop]at h ⊢;split at h
   next d=>
    rw[if_pos d];cases m:f (.int .i64 ((j-aa:Nat):Int)::l) i with
    | none=>rw[m]at h;cases n<;>simp[hop]at h
    | some s=>
     rw[m]at h;have⟨z,t,u,v,w⟩:=c (.int .i64 ((j-aa:Nat):Int)::l) (.int .i64 ((j-aa:Nat):Int)::r) i p s (LSh.cons (gU rfl) b) a.sh m;rw[t];exact F9 c n B s z o u v (a.trans w) h
   next d=>
    rw[if_neg d];cases h;exact⟨_,rfl,rfl,b,a⟩
  | normal=>simp only[hop]at h ⊢;cases h;exact⟨_,rfl,rfl,b,a⟩
  | ret=>simp only[hop]at h ⊢;cases h;exact⟨_,rfl,rfl,b,a⟩
theorem LSh.cons'{x y:Value}{l l':List Value}(r:LSh k l l')(h:Sh k x y):LSh k (x::l) (y::l'):=LSh.cons h r
theorem cM{callA F:CallR}(f:CShR k callA F){lo O:Nat}(q:k.le O lo)(n:Nat):∀(s:Stm),bj s=true->∀(S u:List Value) (H B:Heap) o,LSh k S u->HSh k H B->exec callA lo n s S H=some o->∃o',exec F O n s u B=some o'/\OSh k B o o'
 | .skip,_,S,u,H,B,o,g,m,h=>by simp only[exec,ab₀]at h ⊢;subst h;exact⟨_,rfl,rfl,g,.refl m⟩
 | .exit i,_,S,u,H,B,o,g,m,h=>by simp only[exec,ab₀]at h ⊢;subst h;exact⟨_,rfl,rfl,g,.refl m⟩
 | .ret,_,S,u,H,B,o,g,m,h=>by simp only[exec,ab₀]at h ⊢;subst h;exact⟨_,rfl,rfl,g,.refl m⟩
 | .alt l s r,p,S,u,H,B,o,g,m,h=>by
  simp[bj,ac₀]at p;simp[exec]at h;split at h
  next t S0=>
   obtain⟨y,J,rfl,hy,U⟩:=g.of_cons;obtain rfl:y=.int .i64 t:=by cases hy;rfl
   simp only[exec];split at h
   next Y=>
    rw[if_pos Y];exact cM f q n s p.1 _ _ H B o U m h
   next Y=>
    rw[if_neg Y];exact cM f q n r p.2 _ _ H B o g m h
  .simp at h
 | .scope b K,p,S,u,H,B,o,g,m,h=>by
  simp[bj,ac₀]at p;simp only[exec]at h ⊢;cases V:exec callA lo n b S H with
  | none=>rw[V]at h;cases n<;>simp[hop]at h
  | some o1=>
   rw[V]at h;obtain⟨o2,A,w,z,C⟩:=cM f q n b p.1 S u H B o1 g m V;rw[A];exact F9 (λS u H B o=>cM f q n K p.2 S u H B o) n B o1 o2 o w z C h
 | .sets l T,p,S,u,H,B,o,g,m,h=>by
  simp only[bj,ac₀]at p;simp only[exec]at h ⊢;split at h
  next vs I=>
   split at h
   next W=>
    simp[ab₀]at h;subst h;obtain⟨c0,A,w⟩:=pN m g p.1 I;rw[A];simp only;rw[if_pos<|rZ m g p.2 W];exact⟨_,rfl,rfl,w g,.refl m⟩
   .simp at h
  .simp at h
 | .hv l T pc dst op a,p,S,u,H,B,o,g,m,h=>by
  simp only[bj,ac₀]at p;simp only[exec]at h ⊢;split at h
  next vs I=>
   split at h
   next W=>
    obtain⟨c0,A,w⟩:=pN m g p.1 I;rw[A];simp only;rw[if_pos<|rZ m g p.2.1 W];split at h
    next X=>
     rw[ry m g p.2.2.1 X];simp only;split at h
     next xs b0=>
      obtain⟨e0,z,C⟩:=mo m g a xs p.2.2.2.2 b0;rw[z];simp only;split at h
      next v H' Z=>
       obtain⟨v',B',D,L,M⟩:=Im f.toRet q p.2.2.2.1 C m Z;rw[D];simp[ab₀]at h;subst h;refine⟨_,rfl,rfl,?_,M⟩;cases dst with
       | none=>exact w g
       | some d=>exact(w g).set L d
      .split at h
       next v H' Z=>
        obtain⟨v',B',D,L,M⟩:=DY f q C m Z;rw[AV D];simp only;rw[D];simp[ab₀]at h;subst h;exact⟨_,rfl,rfl,(w g).cons' L,M⟩
       .simp at h
     .simp at h
    next X=>
     rw[ry m g p.2.2.1 X];simp[ab₀]at h;subst h;refine⟨_,rfl,rfl,?_,.refl m⟩;cases dst with
     | none=>exact w g
     | some d=>exact(w g).set (gU (by rfl)) d
    .simp at h
   .simp at h
  .simp at h
 | .dist a b,p,S,u,H,B,o,g,m,h=>by
  simp[bj,ac₀]at p;simp only[exec]at h ⊢;split at h
  next x y N hy=>
   split at h
   next hd=>
    simp only[ab₀]at h;subst h;obtain⟨x',A,w⟩:=nJ m g p.1 N;obtain⟨y',z,C⟩:=nJ m g p.2 hy;rw[A,z];simp only;rw[if_pos<|zM w C hd];exact⟨_,rfl,rfl,g,.refl m⟩
   .simp at h
  .simp at h
 | .seq a b,p,S,u,H,B,o,g,m,h=>by
  simp only[bj,ac₀]at p;simp only[exec]at h ⊢;split at h
  next S1 H1 A=>
   obtain⟨⟨x,J,P⟩,w,z,C,D⟩:=cM f q n a p.1 S u H B _ g m A;simp only at z C D;subst z;rw[w];obtain⟨o',L,M,h8,h9⟩:=cM f q n b p.2 S1 J H1 P o C D.sh h;exact⟨o',L,M,h8,D.trans h9⟩
  next G=>
   obtain⟨o',w,z⟩:=cM f q n a p.1 S u H B _ g m h;refine⟨o',?_,z⟩;rw[w];obtain⟨x,J,P⟩:=o';cases x with
   | normal=>
    obtain⟨y,R,Q⟩:=o;have:=z.1;simp only at this;subst this;exact(G R Q h).elim
   | exit j=>rfl
   | ret=>rfl
 | .cond c a b,p,S,u,H,B,o,g,m,h=>by
  simp only[bj,ac₀]at p;simp only[exec]at h ⊢;split at h
  next N=>
   obtain⟨x',A,w⟩:=nJ m g p.1 N;cases w;rw[A];exact cM f q n a p.2.1 S u H B _ g m h
  next N=>
   obtain⟨x',A,w⟩:=nJ m g p.1 N;cases w;rw[A];exact cM f q n b p.2.2 S u H B _ g m h
  .simp at h
 | .block i b,p,S,u,H,B,o,g,m,h=>by
  simp only[bj]at p;simp only[exec]at h ⊢;split at h
  next j S1 H1 A=>
   obtain⟨⟨x,J,P⟩,w,z,C,D⟩:=cM f q n b p S u H B _ g m A;simp only at z C D;subst z;rw[w];simp only;split at h
   next e=>rw[if_pos e];simp only[ab₀]at h;subst h;exact⟨_,rfl,rfl,C,D⟩
   next e=>rw[if_neg e];simp only[ab₀]at h;subst h;exact⟨_,rfl,rfl,C,D⟩
  next G=>
   obtain⟨o',w,z⟩:=cM f q n b p S u H B _ g m h;refine⟨o',?_,z⟩;rw[w];obtain⟨x,J,P⟩:=o';cases x with
   | exit j=>
    obtain⟨y,R,Q⟩:=o;have:=z.1;simp only at this;subst this;exact(G j R Q h).elim
   | normal=>rfl
   | ret=>rfl
 | .loop b,p,S,u,H,B,o,g,m,h=>by
  simp only[bj]at p;simp only[exec]at h ⊢;exact B9 (λS u H B o g m h=>cM f q n b p S u H B o g m h) n S u H B o g m h
theorem ym{vs c:List Value}(h:LSh k vs c):Sh k (aM vs)<|aM c:=by
 have e:∀{a b:List Value},LSh k a b->Sh k (.tuple a.toArray) (.tuple b.toArray):=λ{a b} h=>.tuple _ _ (by simp[h.1]) (by simpa using h.2);unfold aM;split
 .obtain⟨y,rfl,f⟩:=h.one rfl;exact f
 next d=>
  split
  next v=>
   have:=h.1
   match vs,this with
   | [x],_=>exact(d x rfl).elim
  .exact e h
theorem kK(n:Nat):LSh k (List.replicate n undef)<|List.replicate n undef:=by
 induction n with
 | zero=>exact LSh.nil
 | succ n a=>rw[List.replicate_succ];exact LSh.cons (gU (by rfl)) a
theorem wY{cp:FuncId->Option CF}(F:∀f cf,cp f=some cf->aL cf=true){o p:CallR}(A:CShR k o p){lo c n:Nat}(l:k.le c lo){g:FuncId}{args a:List Value}(s:LSh k args a){t d:Value}(G:Sh k t d){H B:Heap}(z:HSh k H B){H':Heap}
  (h:mg cp o lo n g args t H=some H'):∃m,mg cp p c n g a d B=some m/\MSh k B H' m:=by
 unfold mg at h ⊢;split at h<;>try (simp at h;done)
 rename_i e i;have b:=F g e i;simp[aL,ac₀]at b;split at h<;>try (simp at h;done)
 rename_i j C;split at h<;>try (simp at h;done)
 rename_i D;simp[C,if_pos (show a.length=e.np by rw[<-s.1];exact D)];split at h<;>try (simp at h;done)
 all_goals
  rename_i J I v;simp at h;subst h;have⟨⟨x,K,u⟩,w,q,y,r⟩:=cM A l n e.body b.1 _ _ _ _ _ ((s.append<|kK _).set G j) z v;simp only at q y r;subst q;rw[w];exact⟨u,rfl,r⟩
theorem oe{a:List E}(i:a.all dA=true){S c:List Value}(g:LSh k S c){H B:Heap}(f:HSh k H B){r:Value ⊕ Value}{H':Heap}(h:sf a S H=some (r,H')):H'=H/\∃r',sf a c B=some (r',B)/\RSh k r r':=by
 unfold sf at h ⊢;split at h<;>try (simp at h;done)
 rename_i vs b;simp[ab₀,ad₀]at h;obtain⟨rfl,rfl⟩:=h;have⟨j,d,e⟩:=uD f g i b;rw[d];exact⟨rfl,_,rfl,(ym e:RSh k (.inl _)<|.inl _)⟩
theorem KH{cp:FuncId->Option CF}(Z:∀f cf,cp f=some cf->aL cf=true){cA cB:CallR}(s:CShR k cA cB){lo K n j:Nat}(a:k.le K lo){C:List E}(e:C.all dA=true){b u rest:Stm}(I:bj b=true)(hm:bj u=true)(hr:bj rest=true)
  {S S':List Value} (W:LSh k S S') {H B:Heap} (V:HSh k H B) {r:Value ⊕ Value} {H':Heap} (h:kp cp cA lo n C b u j rest S H=some (r,H')):∃r' B',kp cp cB K n C b u j rest S' B=some (r',B')/\RSh k r r'/\MSh k B H' B':=by
 unfold kp at h;split at h
 next S1 H1 G=>
  have⟨⟨x,S2,Q⟩,A,v,w,q⟩:=cM s a n b I _ _ _ _ _ W V G;simp only at v w q;subst v;obtain⟨rfl,r',U,h7⟩:=oe e w q.sh h;exact⟨r',Q,by simp[kp,A,U],h7,q⟩
 next i p S1 H1 G=>
  have⟨⟨x,S2,Q⟩,A,v,w,q⟩:=cM s a n b I _ _ _ _ _ W V G;simp only at v w q;subst v;obtain⟨q',S3,rfl,U,h7⟩:=w.of_cons;split at h<;>try (simp at h;done)
  rename_i X;simp[ab₀,ad₀]at h;obtain⟨rfl,rfl⟩:=h;exact⟨.inr q',Q,by simp[kp,A,if_pos X],U,q⟩
 next S1 H1 G=>
  have⟨⟨x,S2,Q⟩,A,v,w,q⟩:=cM s a n b I _ _ _ _ _ W V G;simp only at v w q;subst v;split at h<;>try (simp at h;done)
  rename_i S3 H3 g1;have⟨⟨x,R,B4⟩,T,g3,D,t⟩:=cM s a n u hm _ _ _ _ _ w q.sh g1;simp only at g3 D t;subst g3;have t:=q.trans t;split at h<;>try (simp at h;done)
  rename_i g first cap hg
  have Y:j<R.length:=by rw[<-D.1];exact(List.getElem?_eq_some_iff.1 hg).1
  have m:R[j]?=some R[j]:=bc₀ Y;have J:=D.2 j _ _ hg m;generalize R[j]=fv at m J;cases J with
  | func _ _ _ a' b' ha I ra rb=>
  have d:LSh k (first.toList++cap.toList)<|a'.toList++b'.toList:=(LSh.arr.2 ⟨ha,ra⟩).append<|LSh.arr.2 ⟨I,rb⟩;split at h
  next S5 H5 L=>
   have⟨⟨x,S6,B6⟩,M,y,z,c⟩:=cM s a n rest hr _ _ _ _ _ D t.sh L;simp only at y z c;subst y;have c:=t.trans c;split at h<;>try (simp at h;done)
   rename_i H7 o;have⟨F,N,l⟩:=wY Z s a d (.nilIface) c.sh o;have l:=c.trans l;obtain⟨rfl,r',O,P⟩:=oe e z l.sh h;exact⟨r',F,by simp[kp,A,T,m,M,N,O],P,l⟩
  next S5 H5 L=>
   have⟨⟨x,S6,B6⟩,M,y,z,c⟩:=cM s a n rest hr _ _ _ _ _ D t.sh L;simp only at y z c;subst y;have c:=t.trans c;split at h<;>try (simp at h;done)
   rename_i H7 o;have⟨F,N,l⟩:=wY Z s a d (.nilIface) c.sh o;have l:=c.trans l;obtain⟨rfl,r',O,P⟩:=oe e z l.sh h;exact⟨r',F,by simp[kp,A,T,m,M,N,O],P,l⟩
  next i p S5 H5 L=>
   have⟨⟨x,S6,B6⟩,M,y,z,c⟩:=cM s a n rest hr _ _ _ _ _ D t.sh L;simp only at y z c;subst y;have c:=t.trans c;obtain⟨q',S7,rfl,v1,v2⟩:=z.of_cons;split at h<;>try (simp at h;done)
   rename_i X;split at h<;>try (simp at h;done)
   rename_i H7 o;have⟨F,N,l⟩:=wY Z s a d v1 c.sh o;have l:=c.trans l;obtain⟨rfl,r',O,P⟩:=oe e v2 l.sh h;exact⟨r',F,by simp[kp,A,T,m,M,if_pos X,N,O],P,l⟩
  .simp at h
 .simp at h
theorem pg{cp:FuncId->Option CF}(p:∀f cf,cp f=some cf->aL cf=true):∀n,CShR k (run cp n)<|run cp n
 | 0=>λlo G f args l H B v H' _ _ _ h=>by simp[run]at h
 | n+1=>λlo G f args l H B v H' d y A h=>by
  simp[run]at h ⊢;split at h<;>try (simp at h;done)
  rename_i cf F;have a:=p f cf F;simp only[aL,ac₀]at a;split at h<;>try (simp at h;done)
  rename_i O;rw[if_pos (by rw[<-y.1];exact O)];split at h
  next K=>
   have u:∀{S e C s},LSh k S C->HSh k e s->(match evList S e cf.res with|some vs=>some (Sum.inl<|aM vs,e)|none=>none)=some (v,H')->e=H'/\∃r,(match evList C s cf.res with|some vs=>some (Sum.inl<|aM vs,s)|none=>none)=some (r,s)/\RSh k v r:=by
    intro S e C s L D M;have⟨m,o⟩:=oe a.2.1 L D M;exact⟨m.symm,o⟩
   split at h
   next I e m=>
    have⟨⟨x,J,t⟩,o,g,i,b⟩:=cM (pg p n) d n cf.body a.1 _ _ _ _ _ (y.append<|kK _) A m;simp only at g i b;subst g;rw[o];obtain⟨rfl,r,w,z⟩:=u i b.sh h;exact⟨r,t,w,z,b⟩
   next I e m=>
    have⟨⟨x,J,t⟩,o,g,i,b⟩:=cM (pg p n) d n cf.body a.1 _ _ _ _ _ (y.append<|kK _) A m;simp only at g i b;subst g;rw[o];obtain⟨rfl,r,w,z⟩:=u i b.sh h;exact⟨r,t,w,z,b⟩
   next j q I e m=>
    have⟨⟨x,J,t⟩,o,g,i,b⟩:=cM (pg p n) d n cf.body a.1 _ _ _ _ _ (y.append<|kK _) A m;simp only at g i b;subst g;obtain⟨R,Q,rfl,w,z⟩:=i.of_cons;rw[o];simp only;split at h
    next N=>
     rw[if_pos N];simp[ab₀,ad₀]at h;obtain⟨rfl,rfl⟩:=h;exact⟨_,t,rfl,w,b⟩
    .simp at h
   .simp at h
  next P j rest K=>
   have c:=a.2.2;rw[K]at c;simp[Gc,ac₀]at c;exact KH p (pg p n) d a.2.1 a.1 c.1 c.2 (y.append<|kK _) A h
  .simp at h
end
end Go.Abs
