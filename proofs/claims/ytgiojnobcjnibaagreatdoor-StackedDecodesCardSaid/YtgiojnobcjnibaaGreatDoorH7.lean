/- Lemmas. -/
import Derived.Test.YtgiojnobcjnibaaGreatDoorH6
set_option linter.all false
set_option maxHeartbeats 4000000
def XF{P:Prop}(h:P:=by simp only[aG,jW p,s];rfl):P:=h
def XJ{P:Prop}(h:P:=by simpa[o9]using L):P:=h
def XR{P:Prop}(h:P:=by simp only[hsem];rw[if_pos p]):P:=h
def XW{P:Prop}(h:P:=by grind[Heap.get]):P:=h
def X3{P:Prop}(h:P:=by simpa[qY]using Q):P:=h
namespace Go.Abs
def Ev(cp:Wl)(lo:Nat)(f:FuncId)(args:XV)(H:Heap)(R:Wq):Prop:=
 ∃N v H',(∀n,N<=n->run cp n lo f args H=some (.inl v,H'))/\R v H'
theorem Ev.mono{cp:Wl}{lo:Nat}{f:FuncId}{args:XV}{H:Heap}{R a:Wq}(h:Ev cp lo f args H R)(d:∀v H',R v H'->a v H'):Ev cp lo f args H a:=by have⟨N,v,H',b,c⟩:=h;exact⟨N,v,H',b,d _ _ c⟩
def EvP(cp:Wl)(lo:Nat)(f:FuncId)(args:XV)(H:Heap)(R:Wq):Prop:=
 ∃N v H',(∀n,N<=n->run cp n lo f args H=some (.inr v,H'))/\R v H'
theorem EvP.mono{cp:Wl}{lo:Nat}{f:FuncId}{args:XV}{H:Heap}{R a:Wq}(h:EvP cp lo f args H R)(d:∀v H',R v H'->a v H'):EvP cp lo f args H a:=by have⟨N,v,H',b,c⟩:=h;exact⟨N,v,H',b,d _ _ c⟩
abbrev cF:=Ex->XV->Heap->Prop
def setD(S:XV)(dst:Option Nat)(v:Value):XV:=match dst with|some d=>S.set d v|none=>S
noncomputable def bh(lo:Nat)(o:HOp)(vs:XV)(H:Heap):Option<|Value×Heap:=hsem (λ_ _ _ _=>none) lo o vs H
def wpH(cp:Wl)(lo:Nat)(o:HOp)(vs:XV)(H:Heap)(R:Wq):Prop:=
 match o with
 | .call raise=>match vs with
  | .func (.func f) first cap::args=>Ev cp (if raise then H.length else lo) f (first.toList++args++cap.toList) H R
  | _=>False
 | .callC=>match vs with
  | .func (.func f) first cap::args=>Ev cp lo f (first.toList++args++cap.toList) H R
  | _=>False
 | .callK n=>match vs.drop n with
  | .func (.func f) first cap::args=>Ev cp lo f (first.toList++args++cap.toList) H λv H'=>(vs.take n).all (iI H H')=true/\R v H'
  | _=>False
 | o=>match bh lo o vs H with
  | some (v,H')=>R v H'
  | none=>False
def wpP(cp:Wl)(lo:Nat)(o:HOp)(vs:XV)(H:Heap)(R:Wq):Prop:=
 match o with
 | .call false=>match vs with
  | .func (.func f) first cap::args=>EvP cp lo f (first.toList++args++cap.toList) H R
  | _=>False
 | .pan=>match vs with
  | [.iface t v]=>R (.iface t v) H
  | _=>False
 | _=>False
def wpS(cp:Wl)(lo:Nat):Stm->cF->XV->Heap->Prop
 | .skip,Q,S,H=>Q .normal S H
 | .sets l chk,Q,S,H=>match evSets S H l with
  | some vs=>evChk S H chk=true/\Q .normal (setAll S vs) H
  | none=>False
 | .hv l chk pc dst o a,Q,S,H=>match evSets S H l with
  | some vs=>evChk S H chk=true/\match holds S H pc with
   | some true=>match ev S H a with
    | some xs=>(wpH cp lo o xs H λv H'=>Q .normal (setD (setAll S vs) dst v) H')\/(wpP cp lo o xs H λv H'=>Q (.exit bN) (v::setAll S vs) H')
    | none=>False
   | some false=>Q .normal (setD (setAll S vs) dst undef) H
   | none=>False
  | none=>False
 | .dist a b,Q,S,H=>match ev1 S H a,ev1 S H b with
  | some x,some y=>(aT x=none\/aT x≠aT y)/\Q .normal S H
  | _,_=>False
 | .seq a b,Q,S,H=>wpS cp lo a (λex S' H'=>match ex with | .normal=>wpS cp lo b Q S' H'|ex=>Q ex S' H') S H
 | .cond c a b,Q,S,H=>match ev1 S H c with
  | some (.bool t)=>(t=true->wpS cp lo a Q S H)/\(t=false->wpS cp lo b Q S H)
  | _=>False
 | .block i b,Q,S,H=>wpS cp lo b (λex S' H'=>match ex with | .exit j=>if j=i then Q .normal S' H' else Q (.exit j) S' H'|ex=>Q ex S' H') S H
 | .loop b,Q,S,H=>∃(J:Nat->XV->Heap->Prop) (m:Nat),J m S H/\∀m S H,J m S H->wpS cp lo b (λex S' H'=>match ex with | .normal=>∃m',m'<m/\J m' S' H'|ex=>Q ex S' H') S H
 | .exit i,Q,S,H=>Q (.exit i) S H
 | .ret,Q,S,H=>Q .ret S H
 | .alt l s r,Q,S,H=>match S with
  | .int .i64 t::S0=>(t=(l:Nat)->wpS cp lo s Q S0 H)/\(t≠(l:Nat)->wpS cp lo r Q S H)
  | _=>False
 | .scope b alts,Q,S,H=>∃(J:Nat->Nat->XV->Heap->Prop),
   wpS cp lo b (λex S' H'=>match ex with | .exit j=>if bM<=j then ∃m,J m (j-bM) S' H' else Q (.exit j) S' H'|ex=>Q ex S' H') S H /\
   ∀m l S H,J m l S H->wpS cp lo alts (λex S' H'=>match ex with | .exit j=>if bM<=j then ∃m',m'<m/\J m' (j-bM) S' H' else Q (.exit j) S' H'|ex=>Q ex S' H') (.int .i64 ((l:Nat):Int)::S) H
theorem zU{callA:dd}{lo:Nat}{o:HOp}{vs:XV}{H:Heap}(h:o.isCall=false):hsem callA lo o vs H=bh lo o vs H:=by
 cases o<;>simp[HOp.isCall]at h
 all_goals (rcases vs with _|⟨a,_|⟨b,_|⟨c,r⟩⟩⟩)<;>first|rfl|(cases a<;>first|rfl|(rename_i d;cases d<;>first|rfl|(rename_i d;rcases d with ⟨i,o,_|z⟩<;>rfl))|(rename_i d _ _;cases d<;>first|rfl|(cases b<;>first|rfl|(rename_i e _ _;cases e<;>rfl)))|(cases b<;>first|rfl|(rename_i e _ _;cases e<;>rfl)))
def RR{cp:Wl}{lo:Nat}{o:HOp}{vs:XV}{H:Heap}{R:Wq}(h:wpH cp lo o vs H R):∃N v H',(∀n,N<=n->hsem (run cp n).ret lo o vs H=some (v,H'))/\R v H':=by
 unfold wpH at h;split at h
 .split at h
  .have⟨N,v,H',b,a⟩:=h
   exact⟨N,v,H',λn c=>by grind[hsem,qG],a⟩
  simp_all
 .split at h
  .have⟨N,v,H',b,a⟩:=h
   exact⟨N,v,H',λn c=>by grind[hsem,qG],a⟩
  simp_all
 .split at h
  .have⟨N,v,H',b,a,e⟩:=h
   exact⟨N,v,H',λn c=>by grind[hsem,di,qG],e⟩
  simp_all
 .have g:o.isCall=false:=by
   cases o<;>first|rfl|exact(f _ rfl).elim|exact(d rfl).elim|simp_all
  split at h
  next v H' i=>
   exact⟨0,v,H',λn _=>by grind[zU],h⟩
  simp_all
theorem B0{c:CallR}{lo:Nat}{o:HOp}{vs:XV}{H:Heap}{r:Value×Heap}(h:ct c lo o vs H=some r):hsem c.ret lo o vs H=none:=by
 unfold ct at h;split at h
 .simp only[hsem,ah₀,if_false,CallR.ret,uQ h]
 .rfl
 .grind
def RT{cp:Wl}{lo:Nat}{o:HOp}{vs:XV}{H:Heap}{R:Wq}(h:wpP cp lo o vs H R):∃N v H',(∀n,N<=n->ct (run cp n) lo o vs H=some (v,H'))/\R v H':=by
 unfold wpP at h;split at h
 .split at h
  .have⟨N,v,H',c,a⟩:=h
   exact⟨N,v,H',λn b=>by grind[ct,Ay],a⟩
  simp_all
 .split at h
  .exact⟨0,_,H,λn b=>rfl,h⟩
  simp_all
 simp_all
def fg{cp:Wl}{lo:Nat}:∀(st:Stm) (Q:cF) (S:XV) (H:Heap),wpS cp lo st Q S H->∃N p C H',(∀n,N<=n->exec (run cp n) lo n st S H=some (p,C,H'))/\Q p C H'
 | .skip,Q,S,H,h=>⟨0,.normal,S,H,λ_ _=>rfl,h⟩
 | .sets l V,Q,S,H,h=>by
  simp[wpS]at h;split at h
  next vs M=>exact⟨0,.normal,_,H,λ_ _=>by grind[exec],h.2⟩
  simp_all
 | .hv l V pc dst o a,Q,S,H,h=>by
  simp[wpS]at h;split at h
  next vs M=>
   have⟨D,h⟩:=h;split at h
   next X=>
    split at h
    next xs Z=>
     rcases h with h|h
     .have⟨N,v,H',q,d⟩:=RR h
      refine⟨N,.normal,_,H',λn e=>?_,d⟩;simp[exec,M,D,if_true,X,Z,q n e];rfl
     .have⟨N,v,H',q,d⟩:=RT h
      refine⟨N,.exit bN,_,H',λn e=>?_,d⟩
      grind[exec,B0]
    simp_all
   next X=>
    refine⟨0,.normal,_,H,λn _=>?_,h⟩;simp[exec,M,D,if_true,X];rfl
   simp_all
  simp_all
 | .dist a b,Q,S,H,h=>by
  simp[wpS]at h;split at h
  next x y hx hy=>exact⟨0,.normal,S,H,λ_ _=>by grind[exec],h.2⟩
  simp_all
 | .seq a b,Q,S,H,h=>by
  simp[wpS]at h;have⟨N,p,g,f,q,d⟩:=fg a _ S H h;cases p with
  | normal=>
   have⟨G,u,I,F,W,K⟩:=fg b Q g f d;exact⟨max N G,u,I,F,λn e=>by grind[exec],K⟩
  | exit i=>exact⟨N,.exit i,g,f,λn e=>by grind[exec],d⟩
  | ret=>exact⟨N,.ret,g,f,λn e=>by grind[exec],d⟩
 | .cond c a b,Q,S,H,h=>by
  simp[wpS]at h;split at h
  next t Y=>
   cases t
   .have⟨N,p,g,f,q,d⟩:=fg b Q S H<|h.2 rfl
    exact⟨N,p,g,f,λn e=>by grind[exec],d⟩
   .have⟨N,p,g,f,q,d⟩:=fg a Q S H<|h.1 rfl
    exact⟨N,p,g,f,λn e=>by grind[exec],d⟩
  simp_all
 | .block i b,Q,S,H,h=>by
  simp[wpS]at h;have⟨N,p,g,f,q,d⟩:=fg b _ S H h;cases p with
  | normal=>exact⟨N,.normal,g,f,λn e=>by grind[exec],d⟩
  | exit j=>
   simp only at d;split at d
   next T=>exact⟨N,.normal,g,f,λn e=>by grind[exec],d⟩
   next T=>exact⟨N,.exit j,g,f,λn e=>by grind[exec],d⟩
  | ret=>exact⟨N,.ret,g,f,λn e=>by grind[exec],d⟩
 | .loop b,Q,S,H,h=>by
  simp only[wpS]at h;have⟨J,m,R,w⟩:=h;have O:∀m S H,J m S H->∃N p C H',(∀n k,N<=n->N<=k->iter (exec (run cp n) lo n b) k S H=some (p,C,H'))/\Q p C H':=by
   intro m
   induction m using Nat.strongRecOn with
   | _ m ih=>
    intro S H R;have⟨N,p,g,f,q,d⟩:=fg b _ S H<|w m S H R;cases p with
    | normal=>
     have⟨U,L,A⟩:=d;have⟨G,u,I,F,W,K⟩:=ih U L g f A;refine⟨max N G+1,u,I,F,λn k e P=>?_,K⟩;obtain⟨B,rfl⟩:∃B,k=B+1:=⟨k-1,byO⟩
     grind[iter]
    | exit i=>
     refine⟨N+1,.exit i,g,f,λn k e P=>?_,d⟩;obtain⟨B,rfl⟩:∃B,k=B+1:=⟨k-1,byO⟩
     grind[iter]
    | ret=>
     refine⟨N+1,.ret,g,f,λn k e P=>?_,d⟩;obtain⟨B,rfl⟩:∃B,k=B+1:=⟨k-1,byO⟩
     grind[iter]
  have⟨N,p,C,H',q,d⟩:=O m S H R;exact⟨N,p,C,H',λn e=>by grind[exec],d⟩
 | .exit i,Q,S,H,h=>⟨0,.exit i,S,H,λ_ _=>rfl,h⟩
 | .ret,Q,S,H,h=>⟨0,.ret,S,H,λ_ _=>rfl,h⟩
 | .alt l s r,Q,S,H,h=>by
  simp[wpS]at h;split at h
  next t S0=>
   by_cases Y:t=(l:Nat)
   .have⟨N,p,g,f,q,d⟩:=fg s _ S0 H<|h.1 Y
    exact⟨N,p,g,f,λn e=>by grind[exec],d⟩
   .have⟨N,p,g,f,q,d⟩:=fg r _ _ H<|h.2 Y
    exact⟨N,p,g,f,λn e=>by grind[exec],d⟩
  simp_all
 | .scope b z,Q,S,H,h=>by
  simp[wpS]at h;have⟨J,hb,w⟩:=h;have O:∀m l S H,J m l S H->∃N p C H',(∀n k,N<=n->N<=k->hop (exec (run cp n) lo n z) k (exec (run cp n) lo n z (.int .i64 ((l:Nat):Int)::S) H)=some (p,C,H'))/\Q p C H':=by
   intro m
   induction m using Nat.strongRecOn with
   | _ m ih=>
    intro l S H R;have⟨N,p,g,f,q,d⟩:=fg z _ _ H<|w m l S H R;cases p with
    | normal=>exact⟨N,.normal,g,f,λn k e P=>by rw[q n e];cases k<;>rfl,d⟩
    | ret=>exact⟨N,.ret,g,f,λn k e P=>by rw[q n e];cases k<;>rfl,d⟩
    | exit j=>
     simp only at d;split at d
     .have⟨U,L,A⟩:=d
      have⟨G,u,I,F,W,K⟩:=ih U L _ g f A;refine⟨max N G+1,u,I,F,λn k e P=>?_,K⟩;obtain⟨B,rfl⟩:∃B,k=B+1:=⟨k-1,byO⟩
      grind[hop]
     next T=>
      exact⟨N,.exit j,g,f,λn k e P=>by rw[q n e];cases k<;>simp[hop,if_neg T],d⟩
  have⟨N,p,g,f,q,d⟩:=fg b _ S H hb;cases p with
  | normal=>exact⟨N,.normal,g,f,λn e=>by simp[exec];rw[q n e];cases n<;>rfl,d⟩
  | ret=>exact⟨N,.ret,g,f,λn e=>by simp[exec];rw[q n e];cases n<;>rfl,d⟩
  | exit j=>
   simp only at d;split at d
   .have⟨U,A⟩:=d
    have⟨G,u,I,F,W,K⟩:=O U _ g f A;refine⟨max N G+1,u,I,F,λn e=>?_,K⟩;simp[exec];obtain⟨n',rfl⟩:∃n',n=n'+1:=⟨n-1,byO⟩
    grind[hop]
   next T=>
    exact⟨N,.exit j,g,f,λn e=>by simp[exec];rw[q n e];cases n<;>simp[hop,if_neg T],d⟩
def gB(cf:CF)(R:Wq):cF:=λex S H=>match ex with
 | .exit _=>False
 | _=>match evList S H cf.res with
  | some vs=>R (aR vs) H
  | none=>False
def kh{cp:Wl}{lo:Nat}{f:FuncId}{cf:CF}{args:XV}{H:Heap}{R:Wq}(l:cp f=some cf)(p:cf.kind=.plain)(m:args.length=cf.np)
  (h:wpS cp lo cf.body (gB cf R) (args++List.replicate (cf.ns-cf.np) undef) H):Ev cp lo f args H R:=by
 have⟨N,a,b,H',k,c⟩:=fg _ _ _ _ h;have j:∀(a:Ex),(a=.normal\/a=.ret)->(∀n,N<=n->exec (run cp n) lo n cf.body (args++List.replicate (cf.ns-cf.np) undef) H=some (a,b,H'))->gB cf R a b H'->Ev cp lo f args H R:=by
  intro a d k c;have e:match evList b H' cf.res with|some vs=>R (aR vs) H'|none=>False:=by
   rcases d with rfl|rfl<;>exact c
  split at e
  next vs o=>
   refine⟨N+1,aR vs,H',λn q=>?_,e⟩;obtain⟨g,rfl⟩:∃g,n=g+1:=⟨n-1,byO⟩
   grind[run]
  simp_all
 cases a with
 | normal=>simp_all
 | exit i=>exact c.elim
 | ret=>simp_all
def wpR(cp:Wl)(lo:Nat)(g:FuncId)(args:XV)(rv:Value)(H:Heap)(K:Heap->Prop):Prop:=
 ∃cg k,cp g=some cg/\cg.kind=.rcv k/\args.length=cg.np/\wpS cp lo cg.body (λex _ H'=>match ex with | .exit _=>False|_=>K H') ((args++List.replicate (cg.ns-cg.np) undef).set k rv) H
def AI(res:List E)(R:Wq)(S:XV)(H:Heap):Prop:=match evList S H res with
 | some vs=>R (aR vs) H
 | none=>False
def TB(cp:Wl)(lo:Nat)(g:FuncId)(args:XV)(res:List E)(R:Wq):cF:=λex S H=>match ex with
 | .exit i=>i=bN/\match S with
  | p::S'=>wpR cp lo g args p H<|AI res R S'
  | []=>False
 | _=>wpR cp lo g args .nilIface H<|AI res R S
def QN(cp:Wl)(lo j:Nat)(rest:Stm)(res:List E)(R:Wq):cF:=λex S H=>match ex with
 | .normal=>match S[j]? with
  | some (.func (.func g) first cap)=>wpS cp lo rest (TB cp lo g (first.toList++cap.toList) res R) S H
  | _=>False
 | _=>False
def yl(cp:Wl)(lo:Nat)(mid:Stm)(j:Nat)(rest:Stm)(res:List E)(R:Wq):cF:=λex S H=>match ex with
 | .ret=>AI res R S H
 | .normal=>wpS cp lo mid (QN cp lo j rest res R) S H
 | .exit _=>False
def CC{cp:Wl}{lo:Nat}{g:FuncId}{args:XV}{a:Value}{H:Heap}{K:Heap->Prop}(h:wpR cp lo g args a H K):∃N H',(∀n,N<=n->jv cp (run cp n) lo n g args a H=some H')/\K H':=by
 have⟨p,k,c,d,e,f⟩:=h;have⟨N,b,o,H',j,l⟩:=fg _ _ _ _ f;refine⟨N,H',λn m=>?_,?_⟩
 .simp[jv,c,d,e,j n m]
  cases b with
  | exit i=>exact l.elim
  | normal=>rfl
  | ret=>rfl
 grind
def EH{cp:Wl}{lo:Nat}{f:FuncId}{cf:CF}{e rest:Stm}{j:Nat}{args:XV}{H:Heap}{R:Wq}(J:cp f=some cf)(U:cf.kind=.dfr e j rest)(K:args.length=cf.np)
  (h:wpS cp lo cf.body (yl cp lo e j rest cf.res R) (args++List.replicate (cf.ns-cf.np) undef) H):Ev cp lo f args H R:=by
 have c:∀{S k},AI cf.res R S k->∃v,oa cf.res S k=some (.inl v,k)/\R v k:=by
  grind[AI,oa]
 have b:∀N v H',(∀n,N<=n->iT cp (run cp n) lo n cf.res cf.body e j rest (args++List.replicate (cf.ns-cf.np) undef) H=some (.inl v,H'))->R v H'->Ev cp lo f args H R:=by
  intro N v H' G q;refine⟨N+1,v,H',λn s=>?_,q⟩;obtain⟨B,rfl⟩:∃B,n=B+1:=⟨n-1,byO⟩
  grind[run]
 have⟨N,F,S,k,G,q⟩:=fg _ _ _ _ h;cases F with
 | exit i=>exact q.elim
 | ret=>
  have⟨v,I,d⟩:=c q;exact b N v k (λn s=>by grind[iT]) d
 | normal=>
  have⟨t,w,O,L,I,d⟩:=fg _ _ _ _ q;cases w with
  | exit i=>exact d.elim
  | ret=>exact d.elim
  | normal=>
   simp[QN]at d;split at d
   next g y D T=>
    have⟨u,x,C,M,Q,l⟩:=fg _ _ _ _ d;cases x with
    | exit i=>
     obtain⟨rfl,l⟩:=l;cases C with
     | nil=>exact l.elim
     | cons p P=>
      have⟨o,m,z,r⟩:=CC l;have⟨v,A,a⟩:=c r;exact b (max (max N t)<|max u o) v m (λn s=>by grind[iT]) a
    | normal=>
     have⟨o,m,z,r⟩:=CC l;have⟨v,A,a⟩:=c r;exact b (max (max N t)<|max u o) v m (λn s=>by grind[iT]) a
    | ret=>
     have⟨o,m,z,r⟩:=CC l;have⟨v,A,a⟩:=c r;exact b (max (max N t)<|max u o) v m (λn s=>by grind[iT]) a
   simp_all
def mK{P:Program}{cp:Wl}(d:∀b n,RunOK P b P.globals.size<|run cp n){f:FuncId}{args cargs:XV}{H:Heap}{φ:Map}{w:World}{R:Wq}
  (j:HRel φ H.length P.globals.size H w) (a:LRel φ args cargs) (h:Ev cp H.length f args H R) :
  Calls P f cargs.toArray w λe w'=>∃v g H' c,R v H'/\e=.returned g/\Eff φ H.length P.globals.size H.length H w c H' w'/\VRel c v g:=by
 have⟨N,v,H',i,k⟩:=h;have:=((d H.length N).toRet H.length f args H v H' (Nat.le_refl _) (Nat.le_refl _)<|qG<|i N<|Nat.le_refl _).2 φ w cargs j a
 grind[Calls.mono]
structure Mv where
 n:Nat
 w:Nat
 b:Nat
 w1:w<=1
 bn:w=1->b<n
def Mv.f(k:Mv)(i:Nat):Nat:=if i<k.w then k.b else k.n+i-k.w
theorem Mv.ge(k:Mv){i:Nat}(h:k.w<=i):k.f i+k.w=k.n+i:=by grind[f]
theorem Mv.lt(k:Mv){i:Nat}(h:i<k.w):k.f i<k.n/\i=0:=by grind[f,w1,bn]
theorem Mv.or(k:Mv)(i:Nat):(k.w<=i/\k.f i+k.w=k.n+i)\/(i<k.w/\i=0/\k.f i<k.n):=by
 by_cases h:k.w<=i
 .grind[ge]
 .exact .inr ⟨byO,(k.lt byO).2,(k.lt byO).1⟩
theorem Mv.inj(k:Mv){i j:Nat}(h:k.f i=k.f j):i=j:=by have:=k.or i;have:=k.or j;omega
def Mv.le(k:Mv)(lo' lo:Nat):Prop:=k.w<=lo/\lo'+k.w<=k.n+lo
inductive Sh (k:Mv):Value->Value->Prop where
 | bool (b:Bool):Sh k (.bool b)<|.bool b
 | int (i:IntKind) (n:Int):Sh k (.int i n)<|.int i n
 | float (i:FloatKind) (n:Nat):Sh k (.float i n)<|.float i n
 | string (s:ByteArray):Sh k (.string s)<|.string s
 | nilPtr:Sh k (.pointer none)<|.pointer none
 | ptr (i o:Nat) (sp:Option Nat):Sh k (.pointer<|some ⟨i,o,sp⟩)<|.pointer<|some ⟨k.f i,o,sp⟩
 | nilSlice (l c:Nat):Sh k (.slice none l c)<|.slice none l c
 | slice (i o l c:Nat) (sp:Option Nat):Sh k (.slice (some ⟨i,o,sp⟩) l c)<|.slice (some ⟨k.f i,o,sp⟩) l c
 | nilMap:Sh k (.map none)<|.map none
 | map (i:Nat):Sh k (.map<|some i)<|.map<|some<|k.f i
 | func (f:FuncId) (a b a' b':Array Value) (ha:a.size=a'.size) (hb:b.size=b'.size)
   (ra:∀(j:Nat) x y,a[j]?=some x->a'[j]?=some y->Sh k x y) (rb:∀(j:Nat) x y,b[j]?=some x->b'[j]?=some y->Sh k x y) :
   Sh k (.func (.func f) a b)<|.func (.func f) a' b'
 | nilFunc:Sh k .nilFunc .nilFunc
 | iface (t:TypeId) (v v':Value) (h:Sh k v v'):Sh k (.iface t v)<|.iface t v'
 | nilIface:Sh k .nilIface .nilIface
 | agg (a a':Array Value) (ha:a.size=a'.size) (ra:∀(j:Nat) x y,a[j]?=some x->a'[j]?=some y->Sh k x y):Sh k (.agg a)<|.agg a'
 | tuple (a a':Array Value) (ha:a.size=a'.size) (ra:∀(j:Nat) x y,a[j]?=some x->a'[j]?=some y->Sh k x y):Sh k (.tuple a)<|.tuple a'
def LSh(k:Mv)(l l':XV):Prop:=l.length=l'.length/\∀(j:Nat) x y,l[j]?=some x->l'[j]?=some y->Sh k x y
section
variable {k:Mv}
theorem LSh.nil:LSh k [] []:=⟨rfl,λj x y a=>by simp at a⟩
theorem LSh.cons{x y:Value}{l l':XV}(h:Sh k x y)(r:LSh k l l'):LSh k (x::l) (y::l'):=by
 refine⟨by simp[r.1],λj a b c d=>?_⟩;cases j with
 | zero=>simp_all
 | succ j=>exact r.2 j a b c d
theorem LSh.of_cons{x:Value}{l l':XV}(r:LSh k (x::l) l'):∃y r',l'=y::r'/\Sh k x y/\LSh k l r':=by
 cases l' with
 | nil=>have:=r.1;grind
 | cons y r'=>
  refine⟨y,r',rfl,r.2 0 x y rfl rfl,?_,λj a b c d=>r.2 (j+1) a b Wx Wx⟩;have:=r.1;simp_all
theorem LSh.of_nil{l':XV}(r:LSh k [] l'):l'=[]:=by
 cases l' with
 | nil=>rfl
 | cons y r'=>have:=r.1;grind
theorem LSh.append{a b a' e:XV}(h:LSh k a a')(g:LSh k b e):LSh k (a++b)<|a'++e:=by
 refine⟨by simp[h.1,g.1],λj x y c d=>?_⟩;by_cases f:j<a.length
 .rw[ax₀ f]at c
  rw[ax₀<|h.1▸f]at d;exact h.2 j x y c d
 .rw[aw₀ byO]at c
  rw[aw₀ (by rw[<-h.1];omega)]at d;exact g.2 (j-a.length) x y c (by rw[h.1];exact d)
theorem LSh.take{a a':XV}(h:LSh k a a')(n:Nat):LSh k (a.take n)<|a'.take n:=by
 refine⟨Ya,λj x y b c=>?_⟩;rw[List.getElem?_take]at b c;split at b
 next d=>rw[if_pos d]at c;exact h.2 j x y b c
 .grind
theorem LSh.drop{a a':XV}(h:LSh k a a')(n:Nat):LSh k (a.drop n)<|a'.drop n:=by refine⟨Ya,λj x y b c=>?_⟩;rw[List.getElem?_drop]at b c;exact h.2 _ x y b c
theorem LSh.arr{a a':Array Value}:LSh k a.toList a'.toList↔(a.size=a'.size/\∀(j:Nat) x y,a[j]?=some x->a'[j]?=some y->Sh k x y):=by simp[LSh]
theorem LSh.putCells{c c' v b:XV}(h:LSh k c c')(g:LSh k v b)(a:Nat):LSh k (putCells c a v)<|putCells c' a b:=by
 unfold Abs.putCells;rw[<-g.1]
 grind[append,take,drop]
theorem LSh.set{S c:XV}(h:LSh k S c){v d:Value}(f:Sh k v d)(j:Nat):LSh k (S.set j v)<|c.set j d:=by
 refine⟨Ya,λi x y a b=>?_⟩;rw[List.getElem?_set]at a b;split at a
 .simp_all
 next e=>rw[if_neg e]at b;exact h.2 i x y a b
theorem Sh.cells{v c:Value}(h:Sh k v c):LSh k v.cells.toList c.cells.toList:=by
 have d:∀{v c:Value},Sh k v c->LSh k [v] [c]:=λh=>LSh.cons h LSh.nil;cases h with
 | agg a a' e g=>exact LSh.arr.2 ⟨e,g⟩
 | bool b=>exact d<|.bool b
 | int k n=>exact d<|.int k n
 | float k n=>exact d<|.float k n
 | string s=>exact d<|.string s
 | nilPtr=>exact d .nilPtr
 | ptr i o sp=>exact d<|.ptr i o sp
 | nilSlice l c=>exact d<|.nilSlice l c
 | slice i o l c sp=>exact d<|.slice i o l c sp
 | nilMap=>exact d .nilMap
 | map i=>exact d<|.map i
 | func f a b a' j e m g p=>exact d<|.func f a b a' j e m g p
 | nilFunc=>exact d .nilFunc
 | iface t v q h=>exact d<|.iface t v q h
 | nilIface=>exact d .nilIface
 | tuple a a' e g=>exact d<|.tuple a a' e g
theorem Sh.oneCell{v c:Value}(h:Sh k v c):c.oneCell'=v.oneCell':=by cases h<;>rfl
theorem LSh.oneCells{l l':XV}(r:LSh k l l'):Abs.oneCells l'=Abs.oneCells l:=by
 unfold Abs.oneCells
 induction l generalizing l' with
 | nil=>rw[r.of_nil]
 | cons a l b=>
  grind[of_cons,Sh.oneCell]
def na{v:Value}(h:bU v=true):Sh k v v:=by
 unfold bU at h;split at h
 .exact .bool _
 .exact .int _ _
 .exact .string _
 .exact .nilPtr
 .exact .nilSlice _ _
 .exact .nilMap
 .exact .nilFunc
 .exact .nilIface
 .exact .float _ _
 next f a b=>
  simp at h;exact .func f a b a b rfl rfl (λj x y c=>by simp[h.1]at c) (λj x y c=>by simp[h.2]at c)
 .grind
def eC{l:XV}(h:l.all bU=true):LSh k l l:=by refine⟨rfl,λj x y a b=>?_⟩;rw[a]at b;cases b;exact na<|List.all_eq_true.1 h _<|List.mem_of_getElem? a
theorem dU{v:Value}(h:gT v=true):Sh k v v:=by
 unfold gT at h;split at h
 next c=>have⟨a,b⟩:=LSh.arr.1<|eC (k:=k) h;exact .agg c c a b
 next c=>have⟨a,b⟩:=LSh.arr.1<|eC (k:=k) h;exact .tuple c c a b
 .exact .iface _ _ _<|na h
 .exact na h
structure HSh (k:Mv)(H B:Heap):Prop where
 len:B.length+k.w=k.n+H.length/\k.w<=H.length
 get:∀i c,H.get i=some c->∃c',B.get (k.f i)=some c'/\LSh k c c'
theorem HSh.cells{H B:Heap}(h:HSh k H B){i b n:Nat}{l:XV}(a:H.cells i b n=some l):∃l',B.cells (k.f i) b n=some l'/\LSh k l l':=by
 unfold Heap.cells at a ⊢;split at a
 next c g=>
  have⟨c',e,f⟩:=h.get i c g;rw[e];simp only;split at a
  next d=>
   rw[if_pos (by rw[<-f.1];exact d)]
   grind[LSh.take,LSh.drop]
  .grind
 .grind
def o9:LOp->Bool
 | .build zero _=>zero.all bU
 | .tas _ zero=>zero.all bU
 | .mget _ _ zero _=>gT zero
 | _=>true
def Dt{b:BinOp}{x y x' c v:Value}(e:Sh k x x')(f:Sh k y c)(a:aZ b x y=some v):aZ b x' c=some v/\Sh k v v:=by
 have d:bU v=true:=by
  unfold aZ at a;split at a
  .unfold iE az at a
   repeat' split at a
   all_goals (first|(simp at a;done)|(simp at a;subst a;rfl))
  .unfold oP at a
   repeat' split at a
   all_goals (first|(simp at a;done)|(simp at a;subst a;rfl))
  .grind
 refine⟨?_,na d⟩;cases e<;>cases f<;>first|exact a|(simp[aZ]at a)
theorem RL{v a:Value}(h:Sh k v a)(y:Nat):toB a y=toB v y:=by cases h<;>rfl
def x7{l l':XV}(h:LSh k l l')(y:Nat):l'.head?.bind (toB · y)=l.head?.bind (toB · y):=by
 cases l with
 | nil=>rw[h.of_nil]
 | cons x r=>
  obtain⟨x',r',rfl,a,b⟩:=h.of_cons;simp[RL a]
def y8{l l':XV}(h:LSh k l l'):LSh k l.tail l'.tail:=by have:=h.drop 1;simpa using this
theorem jW{len b:Nat}{lo c d:Bool}{a a':XV}(h:LSh k a a'):bounds len b lo c d a'=bounds len b lo c d a:=by have e:=x7 h;have f:=x7<|y8 h;have g:=x7<|y8<|y8 h;unfold bounds;cases lo<;>cases c<;>cases d<;>simp only[ah₀,if_false,if_true,e,f,g]
def qB:∀(ps:List<|Nat×Nat) (b a vs c l:XV),LSh k b a->LSh k vs c->buildL b ps vs=some l->∃l',buildL a ps c=some l'/\LSh k l l'
 | [],b,a,[],c,l,e,g,h=>by
  simp[buildL]at h;subst h;rw[g.of_nil];exact⟨a,rfl,e⟩
 | (i,sz)::ps,b,a,v::vs,c,l,e,g,h=>by
  obtain⟨o,d,rfl,j,m⟩:=g.of_cons;simp only[buildL]at h ⊢;split at h
  next n=>
   have f:=j.cells.1;simp at f;rw[if_pos ⟨byO,by rw[<-e.1];exact n.2⟩];exact qB ps _ _ vs d l (e.putCells j.cells i) m h
  .grind
 | [],_,_,_::_,_,_,_,_,h=>by simp[buildL]at h
 | _::_,_,_,[],_,_,_,_,h=>by simp[buildL]at h
def vT{n:Nat}{x y x' a:Value}{b:Bool}(h:gp n x y=some b)(c:Sh k x x')(d:Sh k y a):x'=x/\a=y:=by unfold gp at h;split at h<;>simp at h<;>(cases c;cases d;exact⟨rfl,rfl⟩)
def oS:∀{j:XN} {x y x' d:XV} {b:Bool},aN j x y=some b->LSh k x x'->LSh k y d->x'=x/\d=y
 | [],[],[],x',d,b,_,e,g=>⟨e.of_nil,g.of_nil⟩
 | n::j,a::x,c::y,x',d,b,h,e,g=>by
  obtain⟨a',s,rfl,l,f⟩:=e.of_cons;obtain⟨c',t,rfl,m,i⟩:=g.of_cons;simp[aN]at h;split at h
  next p q o r=>
   obtain⟨rfl,rfl⟩:=vT o l m;obtain⟨rfl,rfl⟩:=oS r f i;exact⟨rfl,rfl⟩
  .grind
 | [],[],_::_,_,_,_,h,_,_=>by simp[aN]at h
 | [],_::_,_,_,_,_,h,_,_=>by simp[aN]at h
 | _::_,[],_,_,_,_,h,_,_=>by simp[aN]at h
 | _::_,_::_,[],_,_,_,h,_,_=>by simp[aN]at h
def mh{m:XN}{agg:Bool}{x y x' f:Value}{b:Bool}(h:iJ m agg x y=some b)(d:Sh k x x')(e:Sh k y f):x'=x/\f=y:=by
 rcases dL h with ⟨xs,ys,rfl,rfl,_,h⟩|⟨_,h⟩
 .cases d;cases e
  rename_i n g i o j l;have⟨a,c⟩:=oS h (LSh.arr.2 ⟨g,i⟩)<|LSh.arr.2 ⟨j,l⟩;rw[Array.toList_inj]at a c;rw[a,c];exact⟨rfl,rfl⟩
 .have⟨q,_,h⟩:=fQ h
  exact vT h d e
inductive FSh (k:Mv):Option (Nat×Value)->Option (Nat×Value)->Prop where
 | none:FSh k none none
 | some (i:Nat) (v v':Value) (h:Sh k v v'):FSh k (some (i,v))<|some (i,v')
def tZ{l:XN}{agg:Bool}{q:Value}(d:Sh k q q):∀(n:Nat) (c c':XV) (i:Nat) (r:Option<|Nat×Value),c.length<=n->LSh k c c'->eJ l agg q c i=some r->∃r',eJ l agg q c' i=some r'/\FSh k r r'
 | _,[],c',i,r,_,b,h=>by rw[b.of_nil];simp[eJ]at h;subst h;exact⟨none,rfl,.none⟩
 | _,[_],c',i,r,_,b,h=>by simp[eJ]at h
 | 0,x::y::c,c',i,r,e,b,h=>by simp at e
 | n+1,x::y::c,c',i,r,e,b,h=>by
  obtain⟨x',p,rfl,j,f⟩:=b.of_cons;obtain⟨o,t,rfl,m,g⟩:=f.of_cons;simp[eJ]at h ⊢;split at h
  next a=>
   obtain⟨_,rfl⟩:=mh a d j;rw[a];simp at h;subst h;exact⟨_,rfl,.some i y o m⟩
  next a=>
   obtain⟨_,rfl⟩:=mh a d j;rw[a];exact tZ d n c t (i+1) r (by simp at e;omega) g h
  .grind
def Ci{z:Value}{a:Bool}{r r':Option<|Nat×Value}(b:Sh k z z)(h:FSh k r r'):Sh k (getM z a r)<|getM z a r':=by
 cases h with
 | none=>
  cases a
  .exact b
  .exact .tuple _ _ rfl (LSh.arr.1<|LSh.cons b<|LSh.cons (.bool false) LSh.nil).2
 | some i v c h=>
  cases a
  .exact h
  .exact .tuple _ _ rfl (LSh.arr.1<|LSh.cons h<|LSh.cons (.bool true) LSh.nil).2
def Lp{c c':XV}{x x' v e:Value}{r r':Option<|Nat×Value}(a:LSh k c c')(d:Sh k x x')(b:Sh k v e)(h:FSh k r r'):LSh k (Iu c x v r)<|Iu c' x' e r':=by
 cases h with
 | none=>exact a.append<|LSh.cons d<|LSh.cons b LSh.nil
 | some i u f h=>exact LSh.putCells a (LSh.cons d<|LSh.cons b LSh.nil) _
theorem sY:∀{l l':XV} {c:XU},LSh k l l'->bytesOf l=some c->l'=l
 | [],l',c,h,_=>h.of_nil
 | v::r,l',c,h,b=>by
  obtain⟨j,r',rfl,g,f⟩:=h.of_cons;unfold bytesOf at b;split at b
  next e=>grind
  next n i e=>
   simp at e;obtain⟨rfl,rfl⟩:=e;cases g;simp at b;have⟨a,d,_⟩:=b;rw[sY f d]
  .grind
def Cc(b:Bool):∀{l l':XV} {x v:Value},LSh k l l'->(∃i n,x=.int i n)->l.foldlM (ml b) x=some v->l'.foldlM (ml b) x=some v/\∃i n,v=.int i n
 | [],l',x,v,h,d,c=>by rw[h.of_nil];simp at c;subst c;exact⟨rfl,d⟩
 | a::l,l',x,v,h,d,c=>by
  obtain⟨a',r',rfl,f,g⟩:=h.of_cons;obtain⟨i,n,rfl⟩:=d;simp[List.foldlM_cons,Option.bind_eq_bind,ae₀]at c ⊢;have⟨m,e,c⟩:=c;cases f<;>simp[ml]at e;subst e;have:=Cc b g ⟨_,_,rfl⟩ c;exact⟨⟨_,rfl,this.1⟩,this.2⟩
theorem LSh.one{vs a:XV}(h:LSh k vs a){x:Value}(e:vs=[x]):∃x',a=[x']/\Sh k x x':=by grind[of_cons,of_nil]
theorem LSh.two{vs c:XV}(h:LSh k vs c){x y:Value}(e:vs=[x,y]):∃x' d,c=[x',d]/\Sh k x x'/\Sh k y d:=by subst e;obtain⟨a,r,rfl,f,g⟩:=h.of_cons;obtain⟨b,r',rfl,i,j⟩:=g.of_cons;rw[j.of_nil];exact⟨a,b,rfl,f,i⟩
def L0{l:LOp}(L:o9 l=true){vs M:XV}(q:LSh k vs M){H B:Heap}(N:HSh k H B){v:Value}(d:aG l vs H=some v):∃Y,aG l M B=some Y/\Sh k v Y:=by
 unfold aG at d;split at d
 .obtain⟨x',rfl,g⟩:=q.one rfl;simp at d;subst d;exact⟨x',rfl,g⟩
 .obtain⟨x',F,rfl,g,p⟩:=q.two rfl
  obtain⟨a,b⟩:=Dt g p d;exact⟨v,a,b⟩
 .obtain⟨x',F,rfl,g,p⟩:=q.two rfl;cases g;cases p;simp at d;subst d;exact⟨_,rfl,.bool _⟩
 .obtain⟨x',F,rfl,g,p⟩:=q.two rfl
  cases g with
  | agg a a' A C=>
   cases p with
   | agg b U s T=>
    simp only[aa₀]at d;obtain⟨r,W,rfl⟩:=d;obtain⟨Z,e2⟩:=oS W (LSh.arr.2 ⟨A,C⟩)<|LSh.arr.2 ⟨s,T⟩;exact⟨_,by simp only[aG,Z,e2,W];rfl,.bool _⟩
 .obtain⟨x',F,rfl,g,p⟩:=q.two rfl;cases p;cases g<;>(simp only[ab₀]at d;subst d;exact⟨_,rfl,.bool _⟩)
 .obtain⟨x',F,rfl,g,p⟩:=q.two rfl;cases p;cases g<;>(simp only[ab₀]at d;subst d;exact⟨_,rfl,.bool _⟩)
 .obtain⟨x',rfl,g⟩:=q.one rfl;cases g;simp at d;subst d;exact⟨_,rfl,.bool _⟩
 .obtain⟨x',rfl,g⟩:=q.one rfl;cases g;simp only[ab₀]at d;subst d;exact⟨_,rfl,.int _ _⟩
 .obtain⟨x',rfl,g⟩:=q.one rfl;cases g;simp[az]at d;subst d;exact⟨_,rfl,.int _ _⟩
 .obtain⟨x',rfl,g⟩:=q.one rfl;cases g;simp[ab₀]at d;subst d;exact⟨_,rfl,.int _ _⟩
 .obtain⟨x',rfl,g⟩:=q.one rfl;cases g;simp at d;subst d;exact⟨_,rfl,.string _⟩
 .obtain⟨x',rfl,g⟩:=q.one rfl;cases g;simp at d;subst d;exact⟨_,rfl,.string _⟩
 .obtain⟨x',rfl,g⟩:=q.one rfl
  cases g;simp only[aa₀,ae₀]at d;obtain⟨bs,⟨c,w,s⟩,rfl⟩:=d;obtain⟨c',p,J⟩:=N.cells w;obtain rfl:=sY J s;exact⟨_,by simp only[aG,p,ao₀,s];rfl,.string _⟩
 .obtain⟨x',rfl,g⟩:=q.one rfl;cases g;simp at d;subst d;exact⟨_,rfl,.ptr _ _ _⟩
 .obtain⟨x',rfl,g⟩:=q.one rfl
  cases g with
  | func f a b a' U A s C T=>simp at d;subst d;exact⟨_,rfl,.func _ _ _ _ _ A s C T⟩
 .obtain⟨x',rfl,g⟩:=q.one rfl;cases g;simp at d;subst d;exact⟨_,rfl,.ptr _ _ _⟩
 .obtain⟨x',rfl,g⟩:=q.one rfl
  cases g with
  | agg a a' A C=>
   rename_i K n agg a;cases agg
   .simp[ah₀,if_false]at d
    have D:K<a'.size:=by rw[<-A];exact(Array.getElem?_eq_some_iff.1 d).1
    have g:a'[K]?=some a'[K]:=Array.getElem?_eq_getElem D;exact⟨_,by simp only[aG,ah₀,if_false];exact g,C _ _ _ d g⟩
   .simp only[if_true]at d
    split at d
    next R=>
     simp at d;subst d;refine⟨_,by simp only[aG,if_true];rw[if_pos byO],.agg _ _ (by simp[A]) λj x y G I=>?_⟩;rw[Array.getElem?_extract]at G I;split at G
     .split at I
      .exact C _ _ _ G I
      .simp at I
     .simp at G
    .simp at d
 .obtain⟨x',F,rfl,g,p⟩:=q.two rfl
  cases g;cases p;split at d
  next s=>simp at d;subst d;exact⟨_,by simp only[aG];rw[if_pos s],.ptr _ _ _⟩
  .simp at d
 .obtain⟨x',F,rfl,g,p⟩:=q.two rfl
  cases g;cases p;split at d
  next s=>simp at d;subst d;exact⟨_,by simp only[aG];rw[if_pos s],.ptr _ _ _⟩
  .simp at d
 .obtain⟨x',F,rfl,g,p⟩:=q.two rfl
  cases p;cases g with
  | agg a a' A C=>
   rename_i len sz agg a kk i;split at d
   next s=>
    cases agg
    .simp[ah₀,if_false]at d
     have D:i.toNat*sz<a'.size:=by rw[<-A];exact(Array.getElem?_eq_some_iff.1 d).1
     have g:a'[i.toNat*sz]?=some a'[i.toNat*sz]:=Array.getElem?_eq_getElem D;exact⟨_,by simp only[aG,ah₀,if_false];rw[if_pos s];exact g,C _ _ _ d g⟩
    .simp only[if_true]at d
     split at d
     next R=>
      simp at d;subst d;refine⟨_,by simp only[aG,if_true];rw[if_pos s,if_pos byO],.agg _ _ (by simp[A]) λj x y G I=>?_⟩;rw[Array.getElem?_extract]at G I;split at G
      .split at I
       .exact C _ _ _ G I
       .simp at I
      .simp at G
     .simp at d
   .simp at d
 .obtain⟨x',F,rfl,g,p⟩:=q.two rfl
  cases g;cases p;split at d
  next s=>
   simp[aa₀]at d;obtain⟨u,S,rfl⟩:=d;exact⟨_,by simp only[aG];rw[if_pos s,S];rfl,.int _ _⟩
  .simp at d
 .obtain⟨x',rfl,g⟩:=q.one rfl
  cases g;rename_i n agg b o;cases agg
  .simp only[ah₀,if_false,ae₀]at d
   obtain⟨c,w,Q⟩:=d;obtain⟨c',p,J⟩:=N.cells w;cases c with
   | nil=>simp at Q
   | cons x r=>
    obtain⟨y,r',rfl,V,h5⟩:=J.of_cons;simp at Q;subst Q;exact⟨y,by simp only[aG,ah₀,if_false,p];rfl,V⟩
  .simp only[if_true,aa₀]at d
   obtain⟨c,w,rfl⟩:=d;obtain⟨c',p,J⟩:=N.cells w;exact⟨.agg c'.toArray,by simp only[aG,if_true,p];rfl,.agg _ _ (by simp[J.1]) (by simpa using J.2)⟩
 .obtain⟨x',rfl,g⟩:=q.one rfl;cases g<;>(simp at d;subst d;exact⟨_,rfl,.int _ _⟩)
 .obtain⟨x',rfl,g⟩:=q.one rfl;cases g;simp[ab₀]at d;subst d;exact⟨_,rfl,.int _ _⟩
 .obtain⟨x',rfl,g⟩:=q.one rfl;simp at d;subst d;exact⟨_,rfl,.int _ _⟩
 .obtain⟨x',r',rfl,g,p⟩:=q.of_cons
  cases g;simp only[aa₀]at d;obtain⟨⟨l,h,m⟩,s,rfl⟩:=d;exact⟨_,XF,.nilSlice _ _⟩
 .obtain⟨x',r',rfl,g,p⟩:=q.of_cons
  cases g;simp only[aa₀]at d;obtain⟨⟨l,h,m⟩,s,rfl⟩:=d;exact⟨_,XF,.slice _ _ _ _ _⟩
 .obtain⟨x',r',rfl,g,p⟩:=q.of_cons
  cases g;split at d
  next X=>
   simp only[aa₀]at d;obtain⟨⟨l,h,m⟩,s,O⟩:=d;rename_i sz lo hi mx b o z len P args;by_cases w:(mx&&P != 0)=true
   .simp only[w,if_true]at O
    subst O;exact⟨_,by simp only[aG];rw[if_pos X,jW p,s];simp only[Option.map_some,w,if_true],.slice _ _ _ _ _⟩
   .simp only[w]at O
    subst O;exact⟨_,by simp only[aG];rw[if_pos X,jW p,s];simp only[Option.map_some,w];rfl,.slice _ _ _ _ _⟩
  .simp at d
 .obtain⟨x',r',rfl,g,p⟩:=q.of_cons
  cases g;simp only[aa₀]at d;obtain⟨⟨l,h,m⟩,s,rfl⟩:=d;exact⟨_,XF,.slice _ _ _ _ _⟩
 .obtain⟨x',r',rfl,g,p⟩:=q.of_cons
  cases g;simp only[aa₀]at d;obtain⟨⟨l,h,m⟩,s,rfl⟩:=d;exact⟨_,XF,.string _⟩
 .obtain⟨x',rfl,g⟩:=q.one rfl
  cases g with
  | tuple a a' A C=>
   rename_i i a;have D:i<a'.size:=by rw[<-A];exact(Array.getElem?_eq_some_iff.1 d).1
   have g:a'[i]?=some a'[i]:=Array.getElem?_eq_getElem D;exact⟨_,g,C _ _ _ d g⟩
 .simp only[aa₀]at d
  obtain⟨c,w,rfl⟩:=d;obtain⟨c',g,p⟩:=qB _ _ _ _ _ _ (eC XJ) q w;exact⟨.agg c'.toArray,by simp only[aG,g];rfl,.agg _ _ (by simp[p.1]) (by simpa using p.2)⟩
 .simp at d;subst d
  rename_i f n;exact⟨_,rfl,.func _ _ _ _ _ (by simp[q.1]) (by simp[q.1]) (by simpa using(q.take n).2) (by simpa using(q.drop n).2)⟩
 .obtain⟨x',rfl,g⟩:=q.one rfl;simp at d;subst d;exact⟨_,rfl,.iface _ _ _ g⟩
 .obtain⟨x',r',rfl,g,p⟩:=q.of_cons
  split at d
  .cases g
   obtain⟨a,i,n,rfl⟩:=Cc _ p ⟨_,_,rfl⟩ d;exact⟨_,a,.int _ _⟩
  .simp at d
 .obtain⟨x',r',rfl,g,p⟩:=q.of_cons
  obtain⟨a',U,rfl,J,V⟩:=p.two rfl;cases g;simp at d;subst d;rename_i c _ _ _;refine⟨_,rfl,?_⟩;split<;>assumption
 .obtain⟨x',rfl,g⟩:=q.one rfl
  cases g with
  | iface t u u' S=>
   cases S with
   | agg a a' A C=>
    split at d
    next e=>
     simp at d;subst d;exact⟨.tuple #[.agg a',.bool true],by simp only[aG];rw[if_pos e],.tuple _ _ rfl (LSh.arr.1<|LSh.cons (.agg _ _ A C)<|LSh.cons (.bool true) LSh.nil).2⟩
    next e=>
     simp at d;subst d;exact⟨_,by simp only[aG];rw[if_neg e],.tuple _ _ rfl (LSh.arr.1<|LSh.cons (.agg _ _ rfl (LSh.arr.1<|eC XJ).2)<|LSh.cons (.bool false) LSh.nil).2⟩
 .obtain⟨x',rfl,g⟩:=q.one rfl
  cases g;simp at d;subst d;exact⟨_,rfl,.tuple _ _ rfl (LSh.arr.1<|LSh.cons (.agg _ _ rfl (LSh.arr.1<|eC XJ).2)<|LSh.cons (.bool false) LSh.nil).2⟩
 .obtain⟨x',F,rfl,g,p⟩:=q.two rfl
  cases g;simp only[aa₀]at d;obtain⟨b,s,rfl⟩:=d;obtain⟨rfl,_⟩:=mh s p p;exact⟨_,by simp only[aG,s];rfl,Ci (dU XJ) .none⟩
 .obtain⟨x',F,rfl,g,p⟩:=q.two rfl
  cases g;simp only[ae₀,aa₀]at d;obtain⟨c,w,b,s,r,hf,rfl⟩:=d;obtain⟨rfl,_⟩:=mh s p p;obtain⟨c',g1,g2⟩:=N.get _ c w;obtain⟨r',g3,g4⟩:=tZ p c.length c c' 0 r (Nat.le_refl _) g2 hf;exact⟨_,by simp only[aG,g1,ao₀,s,g3];rfl,Ci (dU XJ) g4⟩
 .simp at d
end
section
variable {k:Mv}
def qY:HOp->Bool
 | .alloc z | .mkSl z | .bSl z _ _ | .appN _ z=>z.all bU
 | _=>true
def dN:E->Bool
 | .var _=>true
 | .cst v=>gT v
 | .nil=>true
 | .cons a b=>dN a&&dN b
 | .node o a=>o9 o&&dN a
 | .pick c a b=>dN c&&(dN a&&dN b)
def yG(pc:PC):Bool:=pc.all λx=>dN x.1
def cC:Stm->Bool
 | .skip=>true
 | .sets l chk=>l.all (λx=>dN x.2)&&chk.all dN
 | .hv l chk pc _ o a=>l.all (λx=>dN x.2)&&(chk.all dN&&(yG pc&&(qY o&&dN a)))
 | .dist a b=>dN a&&dN b
 | .seq a b=>cC a&&cC b
 | .cond c a b=>dN c&&(cC a&&cC b)
 | .block _ b=>cC b
 | .loop b=>cC b
 | .exit _=>true
 | .ret=>true
 | .scope b alts=>cC b&&cC alts
 | .alt _ s r=>cC s&&cC r
def B5:CK->Bool
 | .dfr mid _ rest=>cC mid&&cC rest
 | .prim _=>false
 | _=>true
def fo(cf:CF):Bool:=cC cf.body&&(cf.res.all dN&&B5 cf.kind)
theorem dv{H:Heap}{i:Nat}{c:XV}:H.get i=some c↔H[i]?=some (some c):=XW
structure MSh (k:Mv)(B:Heap)(H' B':Heap):Prop where
 sh:HSh k H' B'
 pre:∀i,i<k.n->B'[i]?=B[i]?
theorem HSh.newf{H B:Heap}(h:HSh k H B):B.length=k.f H.length:=by have:=h.len;have:=k.or H.length;omega
theorem MSh.refl{H B:Heap}(h:HSh k H B):MSh k B H B:=⟨h,λ_ _=>rfl⟩
theorem MSh.trans{B e a c b:Heap}(h:MSh k B e a)(g:MSh k a c b):MSh k B c b:=⟨g.sh,λi d=>(g.pre i d).trans<|h.pre i d⟩
theorem HSh.push{H B:Heap}(h:HSh k H B){c c':XV}(j:LSh k c c'):MSh k B (H++[some c])<|B++[some c']:=by
 have m:=h.len;refine⟨⟨Xu,λi d a=>?_⟩,λi b=>?_⟩
 .have l:=k.or i
  rw[dv]at a;by_cases b:i<H.length
  .rw[ax₀ b]at a
   have⟨e,f,g⟩:=h.get i d<|dv.2 a
   grind[dv]
  grind[dv]
 grind
theorem HSh.setB{H B:Heap}(h:HSh k H B){i:Nat}(o:k.w<=i){c c':Option XV}(g:∀d,c=some d->∃a,c'=some a/\LSh k d a):MSh k B (H.set i c)<|B.set (k.f i) c':=by
 have n:=h.len;have l:=k.or i;refine⟨⟨Wx,λj d b=>?_⟩,λj m=>?_⟩
 .rw[dv,List.getElem?_set]at b
  split at b
  .grind[dv]
  .have⟨a,e,f⟩:=h.get j d<|dv.2 b
   grind[dv,Mv.inj]
 grind
theorem HSh.put{H B H':Heap}(h:HSh k H B){lo b i d:Nat}(n:k.le b lo){vs e:XV}(o:LSh k vs e)(a:H.put lo i d vs=some H'):∃g,B.put b (k.f i) d e=some g/\MSh k B H' g:=by
 unfold Heap.put at a ⊢;split at a
 next c m=>
  have⟨c',j,l⟩:=h.get i c m;rw[j];split at a
  next f=>
   simp only;have p:=k.or i;rw[if_pos ⟨by grind[Mv.le],by rw[<-o.1,<-l.1];exact f.2⟩]
   grind[Mv.le,setB,LSh.putCells]
  .grind
 .grind
theorem LSh.replicate{z:XV}(a:LSh k z z):∀n,LSh k (bK z n)<|bK z n
 | 0=>by grind[bK,nil]
 | n+1=>by
  have:=LSh.replicate a n
  grind[bK,append]
theorem LSh.bytes(l:XU):LSh k (l.map λb=>Value.int .u8 b.toNat)<|l.map λb=>Value.int .u8 b.toNat:=by
 induction l with
 | nil=>exact LSh.nil
 | cons a l c=>exact LSh.cons (.int _ _) c
def jJ{lo p sz n:Nat}(f:k.le p lo){s A:Value}(G:Sh k s A){new new':XV}(u:LSh k new new'){H B:Heap}(b:HSh k H B){v:Value}{H':Heap}(h:aV lo sz s new n H=some (v,H')):∃C r,aV p sz A new' n B=some (C,r)/\Sh k v C/\MSh k B H' r:=by
 unfold aV at h;cases G with
 | nilSlice len w=>
  simp only at h;split at h
  next a=>
   simp at h;obtain⟨rfl,rfl⟩:=h
   exact⟨_,B,by unfold aV;simp only;rw[if_pos a],.nilSlice _ _,.refl b⟩
  next a=>
   split at h
   .grind
   next t=>
    split at h
    .rename_i D;simp at h;obtain⟨rfl,rfl⟩:=h
     refine⟨_,_,by unfold aV;simp only;rw[if_neg a,if_neg t,if_pos D],?_,b.push u⟩;rw[b.newf];exact .slice _ _ _ _ _
    .grind
 | slice i o len w sp=>
  simp only at h;split at h
  next a=>
   split at h
   next x=>
    simp only[aa₀]at h;have⟨X,l,e⟩:=h;simp at e;obtain⟨rfl,rfl⟩:=e;have⟨r,g,j⟩:=b.put f u l;exact⟨_,r,by unfold aV;simp only;rw[if_pos a,if_pos x,g];rfl,.slice _ _ _ _ _,j⟩
   .grind
  next a=>
   split at h
   .grind
   next t=>
    cases sp with
    | none=>
     simp only[aa₀]at h;have⟨y,l,e⟩:=h;simp at e;obtain⟨rfl,rfl⟩:=e;have⟨q,g,j⟩:=b.cells l;refine⟨_,_,by unfold aV;simp only;rw[if_neg a,if_neg t,g];rfl,?_,b.push<|j.append u⟩;rw[b.newf];exact .slice _ _ _ _ _
    | some z=>
     simp only at h;split at h
     next I=>
      simp only[aa₀]at h;have⟨y,l,e⟩:=h;simp at e;obtain⟨rfl,rfl⟩:=e;have⟨q,g,j⟩:=b.cells l;have m:=b.setB (i:=i) (by unfold Mv.le at f;omega) (c:=none) (c':=none) (λd F=>by simp at F);have J:=k.or i;refine⟨_,_,by unfold aV;simp only;rw[if_neg a,if_neg t,if_pos ⟨I.1,by unfold Mv.le at f;omega⟩,g];rfl,?_,m.trans<|m.sh.push<|j.append u⟩;rw[b.newf];exact .slice _ _ _ _ _
     .grind
 | _=>simp at h
def CSh(k:Mv)(callA callB:dd):Prop:=
 ∀lo lo' f args args' H B v H',k.le lo' lo->LSh k args args'->HSh k H B->callA lo f args H=some (v,H') ->
  ∃v' B',callB lo' f args' B=some (v',B')/\Sh k v v'/\MSh k B H' B'
def RSh(k:Mv):Value ⊕ Value->Value ⊕ Value->Prop
 | .inl v,.inl u=>Sh k v u
 | .inr v,.inr u=>Sh k v u
 | _,_=>False
def CShR(k:Mv)(cA cB:CallR):Prop:=
 ∀lo lo' f args args' H B r H',k.le lo' lo->LSh k args args'->HSh k H B->cA lo f args H=some (r,H') ->
  ∃r' B',cB lo' f args' B=some (r',B')/\RSh k r r'/\MSh k B H' B'
theorem CShR.toRet{c d:CallR}(h:CShR k c d):CSh k c.ret d.ret:=λlo b f args a H B v H' m n o e=>by
 have⟨r',i,j,g,l⟩:=h lo b f args a H B _ H' m n o<|yP e;cases r' with
 | inl u=>exact⟨u,i,qG j,g,l⟩
 | inr u=>exact g.elim
theorem CShR.toPan{c d:CallR}(h:CShR k c d):CSh k c.pan d.pan:=λlo b f args a H B v H' m n o e=>by
 have⟨r',i,j,g,l⟩:=h lo b f args a H B _ H' m n o<|uQ e;cases r' with
 | inr u=>exact⟨u,i,Ay j,g,l⟩
 | inl u=>exact g.elim
theorem Mv.up{k:Mv}{lo a i:Nat}(c:k.le a lo)(h:lo<=i):a<=k.f i:=by have:=k.or i;grind[le]
theorem Mv.up0{k:Mv}{lo c i:Nat}(a:k.le c lo)(h:lo<=i):k.w<=i:=by unfold Mv.le at a;omega
theorem Sh.uniq{x y:Value}(h:Sh k x y):∀{z:Value},Sh k x z->y=z:=by
 have arr:∀{a a' g:Array Value},a.size=a'.size->a.size=g.size->(∀(j:Nat) x y,a[j]?=some x->a'[j]?=some y->∀{z},Sh k x z->y=z)->(∀(j:Nat) x y,a[j]?=some x->g[j]?=some y->Sh k x y)->a'=g:=by
  intro a a' g F r p u;refine Array.ext byO λi A o=>?_;exact p i a[i] a'[i] (Array.getElem?_eq_getElem byO) (Array.getElem?_eq_getElem A)<|u i _ _ (Array.getElem?_eq_getElem byO)<|Array.getElem?_eq_getElem o
 induction h with
 | func f a b a' C l w s G m B=>
  intro z e;cases e with
  | func _ _ _ g D c n d q=>rw[arr l c m d,arr w n B q]
 | agg a a' l s m=>
  intro z e;cases e with
  | agg _ g c d=>rw[arr l c m d]
 | tuple a a' l s m=>
  intro z e;cases e with
  | tuple _ g c d=>rw[arr l c m d]
 | iface t v H h p=>
  intro z e;cases e with
  | iface _ _ I r=>rw[p r]
 | _=>intro z e;cases e;rfl
theorem LSh.uniq{l a b:XV}(h:LSh k l a)(g:LSh k l b):a=b:=by
 refine List.ext_getElem (by have:=h.1;have:=g.1;omega) λi d e=>?_;have c:i<l.length:=by have:=h.1;omega
 exact(h.2 i l[i] a[i] (bc₀ c)<|bc₀ d).uniq<|g.2 i _ _ (bc₀ c)<|bc₀ e
def Kw{H B H' a:Heap}(m:HSh k H B)(b:HSh k H' a){v e:Value}(n:Sh k v e)(h:iI H H' v=true):iI B a e=true:=by
 have d:∀i,yes (∃c,H.get i=some c/\H'.get i=some c)=true->yes (∃c,B.get (k.f i)=some c/\a.get (k.f i)=some c)=true:=by
  intro i h;have⟨c,o,p⟩:=oi.1 h;have⟨x',j,l⟩:=m.get i c o;have⟨q,f,g⟩:=b.get i c p;cases l.uniq g;exact oi.2 ⟨x',j,f⟩
 cases n<;>first|rfl|exact d _ h
theorem qj{H B H' d:Heap}(e:HSh k H B)(b:HSh k H' d):∀{l l':XV},LSh k l l'->l.all (iI H H')=true->l'.all (iI B d)=true
 | [],l',c,_=>by rw[c.of_nil];rfl
 | a::l,l',c,h=>by
  obtain⟨a',r,rfl,f,g⟩:=c.of_cons;simp only[List.all_cons,ac₀]at h ⊢;exact⟨Kw e b f h.1,qj e b g h.2⟩
def yp{callA c:dd}(g:CSh k callA c){lo h n:Nat}(m:k.le h lo){vs i:XV}(r:LSh k vs i){H B:Heap}(p:HSh k H B){v:Value}{H':Heap}(d:di callA lo n vs H=some (v,H')) :
  ∃l j,di c h n i B=some (l,j)/\Sh k v l/\MSh k B H' j:=by
 unfold di at d;split at d
 next e=>
  have q:=r.drop n;rw[e]at q;have⟨x',r',s,w,x⟩:=q.of_cons;cases w with
  | func f a b a' I y z D F=>
   split at d
   next J G A=>
    split at d
    next C=>
     simp[ab₀,ad₀]at d;obtain⟨rfl,rfl⟩:=d;have⟨l,j,t,u,o⟩:=g _ _ _ _ _ _ _ _ _ m (((LSh.arr.2 ⟨y,D⟩).append x).append<|LSh.arr.2 ⟨z,F⟩) p A;refine⟨l,j,?_,u,o⟩;unfold di;rw[s];simp only[t];rw[if_pos<|qj p o.sh (r.take n) C]
    .cases d
   .cases d
 .cases d
def Kj{callA x:dd}(u:CSh k callA x){lo K:Nat}(l:k.le K lo){o:HOp}(Q:qY o=true){vs P:XV}(t:LSh k vs P){H B:Heap}(j:HSh k H B){v:Value}{H':Heap}(g:hsem callA lo o vs H=some (v,H')) :
  ∃z w,hsem x K o P B=some (z,w)/\Sh k v z/\MSh k B H' w:=by
 unfold hsem at g;split at g
 .exact yp u l t j g
 .obtain⟨x',r',rfl,h,m⟩:=t.of_cons
  cases h with
  | func f a b a' b' T M Z rb=>
   rename_i y _ _ _ _;have U:k.le (if y=true then B.length else K) (if y=true then H.length else lo):=by
    split
    .exact⟨j.len.2,Nat.le_of_eq j.len.1⟩
    .exact l
   exact u _ _ _ _ _ _ _ _ _ U (((LSh.arr.2 ⟨T,Z⟩).append m).append<|LSh.arr.2 ⟨M,rb⟩) j g
 .obtain⟨x',r',rfl,h,m⟩:=t.of_cons
  cases h with
  | func f a b a' b' T M Z rb=>
   exact u _ _ _ _ _ _ _ _ _ l (((LSh.arr.2 ⟨T,Z⟩).append m).append<|LSh.arr.2 ⟨M,rb⟩) j g
 .have:=t.of_nil;subst this
  simp at g;obtain⟨rfl,rfl⟩:=g;refine⟨_,_,rfl,?_,j.push<|eC X3⟩;rw[j.newf];exact .ptr _ _ _
 .obtain⟨x',rfl,h⟩:=t.one rfl
  simp[ab₀,ad₀]at g;obtain⟨rfl,rfl⟩:=g;refine⟨_,_,rfl,?_,j.push h.cells⟩;rw[j.newf];exact .ptr _ _ _
 .obtain⟨x',D,rfl,h,m⟩:=t.two rfl
  cases h;cases m;split at g
  next p=>
   simp[ab₀,ad₀]at g;obtain⟨rfl,rfl⟩:=g;refine⟨_,_,XR,?_,j.push<|LSh.replicate (eC X3) _⟩;rw[j.newf];exact .slice _ _ _ _ _
  .simp at g
 .simp only[aa₀]at g
  obtain⟨c,p,e⟩:=g;simp[ad₀]at e;obtain⟨rfl,rfl⟩:=e;obtain⟨c',h,m⟩:=qB _ _ _ _ _ _ (LSh.replicate (eC X3) _) t p;refine⟨_,_,by simp[hsem,h];rfl,?_,j.push m⟩;rw[j.newf];exact .slice _ _ _ _ _
 .obtain⟨x',D,rfl,h,m⟩:=t.two rfl
  cases h;split at g
  next p=>
   simp only[aa₀]at g;obtain⟨X,S,e⟩:=g;simp[ad₀]at e;obtain⟨rfl,rfl⟩:=e;obtain⟨w,A,C⟩:=j.put l m.cells S;have W:=m.cells.1;simp[Array.length_toList]at W;exact⟨_,w,by simp only[hsem];rw[if_pos ⟨byO,by rw[m.cells.oneCells];exact p.2⟩,A];rfl,dU (by rfl),C⟩
  .simp at g
 .obtain⟨x',D,rfl,h,m⟩:=t.two rfl
  cases m;split at g
  next p=>
   obtain⟨z,w,A,C⟩:=jJ l h LSh.nil j g;exact⟨z,w,by simp only[hsem];rw[if_pos p,A],C⟩
  .simp at g
 .obtain⟨x',D,rfl,h,m⟩:=t.two rfl
  cases m;simp only[ae₀]at g;obtain⟨new,V,g⟩:=g;obtain⟨new',A,C⟩:=j.cells V;split at g
  next p=>
   obtain⟨z,w,F,G⟩:=jJ l h C j g;exact⟨z,w,by simp only[hsem,A,ao₀];rw[if_pos (by rw[C.oneCells];exact p),F],G⟩
  .simp at g
 .obtain⟨x',D,rfl,h,m⟩:=t.two rfl
  cases m;obtain⟨z,w,F,G⟩:=jJ l h (LSh.bytes _) j g;exact⟨z,w,by simp[hsem];exact F,G⟩
 .obtain⟨x',D,rfl,h,m⟩:=t.two rfl
  cases m;split at g
  next p=>
   obtain⟨z,w,F,G⟩:=jJ l h (LSh.replicate (eC X3) _) j g;exact⟨z,w,by simp only[hsem];rw[if_pos p];exact F,G⟩
  .simp at g
 .obtain⟨x',rfl,h⟩:=t.one rfl
  cases h;simp[ab₀,ad₀]at g;obtain⟨rfl,rfl⟩:=g;refine⟨_,_,rfl,?_,j.push<|LSh.bytes _⟩;rw[j.newf];exact .slice _ _ _ _ _
 .unfold lT at g
  split at g<;>try simp at g;done
  obtain⟨x',rfl,h⟩:=t.one rfl;cases h;rename_i i o n c;split at g
  next d I=>
   split at g
   next p=>
    simp[ab₀,ad₀]at g;obtain⟨rfl,rfl⟩:=g;obtain⟨d',m,_⟩:=j.get i d I;have hf:=k.or i;exact⟨_,B,by simp only[hsem,lT,m];rw[if_pos (by unfold Mv.le at l;omega)],.slice _ _ _ _ _,.refl j⟩
   .simp at g
  .simp at g
 .split at g
  next U=>
   simp only[ab₀,ad₀]at g;obtain⟨rfl,rfl⟩:=g;refine⟨_,_,by simp only[hsem];rw[if_pos (by rw[<-t.1];exact U)],?_,j.push LSh.nil⟩;rw[j.newf];exact .map _
  .simp at g
 .unfold lX at g
  split at g<;>try simp at g;done
  obtain⟨x',r',rfl,h,Y⟩:=t.of_cons;obtain⟨D,z',rfl,m,A⟩:=Y.two rfl;cases h;split at g<;>try simp at g;done
  rename_i p;split at g<;>try simp at g;done
  rename_i c O;split at g<;>try simp at g;done
  rename_i b M;split at g<;>try simp at g;done
  rename_i r hf;simp only[ab₀,ad₀]at g;obtain⟨rfl,rfl⟩:=g;obtain⟨rfl,_⟩:=mh M m m;obtain⟨c',L,N⟩:=j.get _ c O;obtain⟨q,R,g4⟩:=tZ m c.length c c' 0 r (Nat.le_refl _) N hf;refine⟨_,_,by simp only[hsem,lX];rw[if_pos<|Mv.up l p,L];simp only[M,R];rfl,dU (by rfl),j.setB (Mv.up0 l p) λd I=>?_⟩;cases I;exact⟨_,rfl,Lp N m A g4⟩
 .unfold lW at g
  split at g<;>try simp at g;done
  .obtain⟨x',rfl,h⟩:=t.one rfl
   cases h;simp only[ab₀,ad₀]at g;obtain⟨rfl,rfl⟩:=g;exact⟨_,B,rfl,dU (by rfl),.refl j⟩
  .obtain⟨x',rfl,h⟩:=t.one rfl
   cases h;split at g<;>try simp at g;done
   rename_i p;split at g<;>try simp at g;done
   rename_i c O;simp only[ab₀,ad₀]at g;obtain⟨rfl,rfl⟩:=g;obtain⟨c',L,N⟩:=j.get _ c O;refine⟨_,_,by simp only[hsem,lW];rw[if_pos<|Mv.up l p,L],dU (by rfl),j.setB (Mv.up0 l p) λd I=>?_⟩;cases I;exact⟨_,rfl,LSh.nil⟩
 .obtain⟨x',rfl,h⟩:=t.one rfl
  cases h;simp only[ab₀,ad₀]at g;obtain⟨rfl,rfl⟩:=g;refine⟨_,_,rfl,?_,j.push<|LSh.cons (.string _)<|LSh.cons (.int _ _) LSh.nil⟩;rw[j.newf];exact .ptr _ _ _
 .unfold oe at g
  split at g<;>try simp at g;done
  obtain⟨x',rfl,h⟩:=t.one rfl;cases h;split at g<;>try simp at g;done
  rename_i p;split at g<;>try simp at g;done
  rename_i s q O;obtain⟨c',L,N⟩:=j.get _ _ O;obtain⟨y1,r1,rfl,e1,R⟩:=N.of_cons;obtain⟨y2,rfl,e2⟩:=R.one rfl;cases e1;cases e2;split at g
  next J=>
   simp only[ab₀,ad₀]at g;obtain⟨rfl,rfl⟩:=g;refine⟨_,_,by simp only[hsem,oe];rw[if_pos<|Mv.up l p,L];simp only;rw[if_pos J],dU (by rfl),j.setB (Mv.up0 l p) λd I=>?_⟩;cases I;exact⟨_,rfl,LSh.cons (.string _)<|LSh.cons (.int _ _) LSh.nil⟩
  next J=>
   simp only[ab₀,ad₀]at g;obtain⟨rfl,rfl⟩:=g;exact⟨_,B,by simp only[hsem,oe];rw[if_pos<|Mv.up l p,L];simp only;rw[if_neg J],dU (by rfl),.refl j⟩
 .obtain⟨x',D,rfl,h,m⟩:=t.two rfl
  cases h;split at g
  next p=>
   simp only[ab₀,ad₀]at g;obtain⟨rfl,rfl⟩:=g;cases m<;>exact⟨_,B,XR,.int _ _,.refl j⟩
  .simp at g
 .obtain⟨x',D,rfl,h,m⟩:=t.two rfl
  cases h;cases m;split at g
  next p=>
   simp only[ab₀,ad₀]at g;obtain⟨rfl,rfl⟩:=g;exact⟨_,B,XR,.int _ _,.refl j⟩
  .simp at g
 .obtain⟨x',D,rfl,h,m⟩:=t.two rfl
  cases h;cases m;simp only[ae₀]at g;obtain⟨new,V,g⟩:=g;obtain⟨new',A,C⟩:=j.cells V;split at g
  next p=>
   simp only[aa₀]at g;obtain⟨X,S,e⟩:=g;simp only[ad₀]at e;obtain⟨rfl,rfl⟩:=e;obtain⟨w,F,G⟩:=j.put l C S;exact⟨_,w,by simp only[hsem,A,ao₀];rw[if_pos (by rw[C.oneCells];exact p),F];rfl,.int _ _,G⟩
  .simp at g
 .simp at g
def Ez{l m:CallR}(c:CShR k l m){lo e:Nat}(i:k.le e lo){o:HOp}{vs g:XV}(p:LSh k vs g){H B:Heap}(n:HSh k H B){v:Value}{H':Heap}(d:ct l lo o vs H=some (v,H')) :
  ∃q j,ct m e o g B=some (q,j)/\Sh k v q/\MSh k B H' j:=by
 unfold ct at d;split at d
 .obtain⟨x',r',rfl,h,r⟩:=p.of_cons
  cases h with
  | func f a b a' A s w y z=>
   exact c.toPan _ _ _ _ _ _ _ _ _ i (((LSh.arr.2 ⟨s,y⟩).append r).append<|LSh.arr.2 ⟨w,z⟩) n d
 .obtain⟨x',rfl,h⟩:=p.one rfl
  cases h with
  | iface t u C x=>
   simp[ab₀,ad₀]at d;obtain⟨rfl,rfl⟩:=d;exact⟨_,B,rfl,.iface _ _ _ x,.refl n⟩
 .grind
def oG{H B:Heap}(i:HSh k H B){S p:XV}(g:LSh k S p):∀(e:E) (vs:XV),dN e=true->ev S H e=some vs->∃q,ev p B e=some q/\LSh k vs q
 | .var j,vs,_,h=>by
  simp[ev]at h ⊢;split at h
  next v u=>
   simp at h;subst h;have s:j<p.length:=by rw[<-g.1];exact(List.getElem?_eq_some_iff.1 u).1
   have f:p[j]?=some p[j]:=bc₀ s;rw[f];exact⟨_,rfl,LSh.cons (g.2 _ _ _ u f) LSh.nil⟩
  .grind
 | .cst v,vs,d,h=>by
  simp only[ev,ab₀]at h ⊢;subst h;exact⟨_,rfl,LSh.cons (dU d) LSh.nil⟩
 | .nil,vs,_,h=>by
  simp only[ev,ab₀]at h ⊢;subst h;exact⟨_,rfl,LSh.nil⟩
 | .cons a b,vs,d,h=>by
  simp[dN,ac₀]at d;simp[ev]at h ⊢;split at h
  next x n=>
   split at h
   next y t=>
    simp[ab₀]at h;subst h;have⟨x',f,l⟩:=oG i g a x d.1 n;have⟨w,m,r⟩:=oG i g b y d.2 t;rw[f,m];exact⟨_,rfl,l.append r⟩
   .grind
  .grind
 | .node o a,vs,d,h=>by
  simp[dN,ac₀]at d;simp[ev]at h ⊢;split at h
  next x n=>
   split at h
   next y t=>
    simp[ab₀]at h;subst h;have⟨x',f,l⟩:=oG i g a x d.2 n;have⟨w,m,r⟩:=L0 d.1 l i t;rw[f];simp only[m];exact⟨_,rfl,LSh.cons r LSh.nil⟩
   .grind
  .grind
 | .pick c a b,vs,d,h=>by
  simp[dN,ac₀]at d;simp[ev]at h ⊢;split at h
  next n=>
   have⟨x',f,l⟩:=oG i g c _ d.1 n;obtain⟨y,rfl,m⟩:=l.one rfl;cases m;rw[f];exact oG i g a vs d.2.1 h
  next n=>
   have⟨x',f,l⟩:=oG i g c _ d.1 n;obtain⟨y,rfl,m⟩:=l.one rfl;cases m;rw[f];exact oG i g b vs d.2.2 h
  .grind
def oX{H B:Heap}(g:HSh k H B){S a:XV}(i:LSh k S a){e:E}{v:Value}(j:dN e=true)(h:ev1 S H e=some v):∃b,ev1 a B e=some b/\Sh k v b:=by
 unfold ev1 at h ⊢;split at h
 next x l=>
  simp[ab₀]at h;subst h;have⟨x',c,d⟩:=oG g i e _ j l;obtain⟨y,rfl,f⟩:=d.one rfl;rw[c];exact⟨_,rfl,f⟩
 .grind
def vm{H B:Heap}(f:HSh k H B){S d:XV}(g:LSh k S d):∀{b:List E} {vs:XV},b.all dN=true->evList S H b=some vs->∃a,evList d B b=some a/\LSh k vs a
 | [],vs,_,h=>by simp only[evList,ab₀]at h ⊢;subst h;exact⟨_,rfl,LSh.nil⟩
 | e::r,vs,c,h=>by
  simp only[List.all_cons,ac₀]at c;simp[evList]at h ⊢;split at h
  next v p=>
   split at h
   next l o=>
    simp[ab₀]at h;subst h;have⟨q,i,j⟩:=oX f g c.1 p;have⟨l',m,n⟩:=vm f g c.2 o;rw[i,m];exact⟨_,rfl,LSh.cons j n⟩
   .grind
  .grind
theorem tQ{H B:Heap}(d:HSh k H B){S c:XV}(f:LSh k S c):∀{a:List E},a.all dN=true->evChk S H a=true->evChk c B a=true
 | [],_,_=>rfl
 | e::r,b,h=>by
  simp only[List.all_cons,ac₀]at b;simp[evChk,ac₀,Option.isSome_iff_exists]at h ⊢;have⟨⟨x,j⟩,g⟩:=h;have⟨x',i,_⟩:=oG d f e _ b.1 j;exact⟨⟨x',i⟩,tQ d f b.2 g⟩
def qI{H B:Heap}(f:HSh k H B){S c:XV}(g:LSh k S c):∀{l:List<|Nat×E} {vs:List<|Nat×Value},l.all (λx=>dN x.2)=true->evSets S H l=some vs ->
  ∃a,evSets c B l=some a/\∀{T d:XV},LSh k T d->LSh k (setAll T vs) (setAll d a)
 | [],vs,_,h=>by simp only[evSets,ab₀]at h ⊢;subst h;exact⟨_,rfl,λh=>h⟩
 | (j,e)::r,vs,b,h=>by
  simp only[List.all_cons,ac₀]at b;simp[evSets]at h ⊢;split at h
  next v s=>
   split at h
   next l q=>
    simp[ab₀]at h;subst h;have⟨t,i,m⟩:=oX f g b.1 s;have⟨l',n,o⟩:=qI f g b.2 q;rw[i,n];exact⟨_,rfl,λp=>o<|p.set m j⟩
   .grind
  .grind
theorem tj{H B:Heap}(g:HSh k H B){S f:XV}(i:LSh k S f):∀{d:PC} {b:Bool},yG d=true->holds S H d=some b->holds f B d=some b
 | [],b,_,h=>h
 | (c,j)::r,b,a,h=>by
  simp only[yG,List.all_cons,ac₀]at a;simp[holds]at h ⊢;split at h
  next t n=>
   have⟨o,l,m⟩:=oX g i a.1 n;cases m;rw[l];simp only;split at h
   next e=>rw[if_pos e];exact tj g i a.2 h
   next e=>rw[if_neg e];exact h
  .grind
theorem Ak{x x' y i:Value}(j:Sh k x x')(l:Sh k y i)(h:aT x=none\/aT x≠aT y):aT x'=none\/aT x'≠aT i:=by
 have g:∀{v d:Value},Sh k v d->aT d=(aT v).map k.f:=by
  intro v d h;cases h<;>rfl
 rw[g j,g l];cases e:aT x with
 | none=>exact .inl rfl
 | some a=>
  rw[e]at h;refine .inr λc=>?_;cases f:aT y with
  | none=>rw[f]at c;grind
  | some b=>
   rw[f]at c h;simp at c;rw[k.inj c]at h;grind
def OSh(k:Mv)(B:Heap)(o o':Ex×XV×Heap):Prop:=o'.1=o.1/\LSh k o.2.1 o'.2.1/\MSh k B o.2.2 o'.2.2
def Cq{f g:XV->Heap->Out}(b:∀S a H B o,LSh k S a->HSh k H B->f S H=some o->∃o',g a B=some o'/\OSh k B o o'):∀(n:Nat) (S a:XV) (H B:Heap) o,LSh k S a->HSh k H B->iter f n S H=some o->∃o',iter g n a B=some o'/\OSh k B o o'
 | 0,S,a,H,B,o,_,_,h=>by simp[iter]at h
 | n+1,S,a,H,B,o,r,q,h=>by
  simp only[iter]at h ⊢;split at h
  next u s w=>
   have⟨⟨x,m,l⟩,d,c,p,e⟩:=b S a H B _ r q w;simp only at c p e;subst c;rw[d];have⟨o',z,A,C,D⟩:=Cq b n u m s l o p e.sh h;exact⟨o',z,A,C,e.trans D⟩
  next i=>
   have⟨o',d,c⟩:=b S a H B _ r q h;refine⟨o',?_,c⟩;rw[d];have⟨x,m,l⟩:=o';cases x with
   | normal=>
    have⟨y,v,t⟩:=o;have:=c.1;simp only at this;subst this;exact(i v t h).elim
   | exit j=>rfl
   | ret=>rfl
def Hv{f g:XV->Heap->Out}(c:∀(S q:XV) (H B:Heap) o,LSh k S q->HSh k H B->f S H=some o->∃o',g q B=some o'/\o'.1=o.1/\LSh k o.2.1 o'.2.1/\MSh k B o.2.2 o'.2.2) :
  ∀(n:Nat) (B:Heap) (x:Ex×XV×Heap) (y:Ex×XV×Heap) o,y.1=x.1->LSh k x.2.1 y.2.1->MSh k B x.2.2 y.2.2->hop f n (some x)=some o->∃o',hop g n (some y)=some o'/\o'.1=o.1/\LSh k o.2.1 o'.2.1/\MSh k B o.2.2 o'.2.2
 | 0,B,(x,l,i),(y,r,p),o,e,b,a,h=>by
  simp only at e b a;subst e;cases y with
  | exit j=>
   simp only[hop]at h ⊢;split at h
   .grind
   next d=>
    rw[if_neg d];cases h;exact⟨_,rfl,rfl,b,a⟩
  | normal=>simp only[hop]at h ⊢;cases h;exact⟨_,rfl,rfl,b,a⟩
  | ret=>simp only[hop]at h ⊢;cases h;exact⟨_,rfl,rfl,b,a⟩
 | n+1,B,(x,l,i),(y,r,p),o,e,b,a,h=>by
  simp only at e b a;subst e;cases y with
  | exit j=>
   simp only[hop]at h ⊢;split at h
   next d=>
    rw[if_pos d];cases m:f (.int .i64 ((j-bM:Nat):Int)::l) i with
    | none=>rw[m]at h;cases n<;>simp[hop]at h
    | some s=>
     rw[m]at h;have⟨z,t,u,v,w⟩:=c (.int .i64 ((j-bM:Nat):Int)::l) (.int .i64 ((j-bM:Nat):Int)::r) i p s (LSh.cons (dU rfl) b) a.sh m;rw[t];exact Hv c n B s z o u v (a.trans w) h
   next d=>
    rw[if_neg d];cases h;exact⟨_,rfl,rfl,b,a⟩
  | normal=>simp only[hop]at h ⊢;cases h;exact⟨_,rfl,rfl,b,a⟩
  | ret=>simp only[hop]at h ⊢;cases h;exact⟨_,rfl,rfl,b,a⟩
theorem LSh.cons'{x y:Value}{l l':XV}(r:LSh k l l')(h:Sh k x y):LSh k (x::l) (y::l'):=LSh.cons h r
def cZ{callA F:CallR}(f:CShR k callA F){lo O:Nat}(q:k.le O lo)(n:Nat):∀(s:Stm),cC s=true->∀(S u:XV) (H B:Heap) o,LSh k S u->HSh k H B->exec callA lo n s S H=some o->∃o',exec F O n s u B=some o'/\OSh k B o o'
 | .skip,_,S,u,H,B,o,g,m,h=>by simp only[exec,ab₀]at h ⊢;subst h;exact⟨_,rfl,rfl,g,.refl m⟩
 | .exit i,_,S,u,H,B,o,g,m,h=>by simp only[exec,ab₀]at h ⊢;subst h;exact⟨_,rfl,rfl,g,.refl m⟩
 | .ret,_,S,u,H,B,o,g,m,h=>by simp only[exec,ab₀]at h ⊢;subst h;exact⟨_,rfl,rfl,g,.refl m⟩
 | .alt l s r,p,S,u,H,B,o,g,m,h=>by
  simp[cC,ac₀]at p;simp[exec]at h;split at h
  next t S0=>
   obtain⟨y,J,rfl,hy,U⟩:=g.of_cons;obtain rfl:y=.int .i64 t:=by cases hy;rfl
   simp only[exec];split at h
   next Y=>
    rw[if_pos Y];exact cZ f q n s p.1 _ _ H B o U m h
   next Y=>
    rw[if_neg Y];exact cZ f q n r p.2 _ _ H B o g m h
  .simp at h
 | .scope b K,p,S,u,H,B,o,g,m,h=>by
  simp[cC,ac₀]at p;simp only[exec]at h ⊢;cases V:exec callA lo n b S H with
  | none=>rw[V]at h;cases n<;>simp[hop]at h
  | some o1=>
   rw[V]at h;obtain⟨o2,A,w,z,C⟩:=cZ f q n b p.1 S u H B o1 g m V;rw[A];exact Hv (λS u H B o=>cZ f q n K p.2 S u H B o) n B o1 o2 o w z C h
 | .sets l T,p,S,u,H,B,o,g,m,h=>by
  simp only[cC,ac₀]at p;simp only[exec]at h ⊢;split at h
  next vs I=>
   split at h
   next W=>
    simp[ab₀]at h;subst h;obtain⟨b0,A,w⟩:=qI m g p.1 I;rw[A];simp only;rw[if_pos<|tQ m g p.2 W];exact⟨_,rfl,rfl,w g,.refl m⟩
   .simp at h
  .simp at h
 | .hv l T pc dst op a,p,S,u,H,B,o,g,m,h=>by
  simp only[cC,ac₀]at p;simp only[exec]at h ⊢;split at h
  next vs I=>
   split at h
   next W=>
    obtain⟨b0,A,w⟩:=qI m g p.1 I;rw[A];simp only;rw[if_pos<|tQ m g p.2.1 W];split at h
    next X=>
     rw[tj m g p.2.2.1 X];simp only;split at h
     next xs a0=>
      obtain⟨c0,z,C⟩:=oG m g a xs p.2.2.2.2 a0;rw[z];simp only;split at h
      next v H' Z=>
       obtain⟨v',B',D,L,M⟩:=Kj f.toRet q p.2.2.2.1 C m Z;rw[D];simp[ab₀]at h;subst h;refine⟨_,rfl,rfl,?_,M⟩;cases dst with
       | none=>exact w g
       | some d=>exact(w g).set L d
      .split at h
       next v H' Z=>
        obtain⟨v',B',D,L,M⟩:=Ez f q C m Z;rw[B0 D];simp only;rw[D];simp[ab₀]at h;subst h;exact⟨_,rfl,rfl,(w g).cons' L,M⟩
       .simp at h
     .simp at h
    next X=>
     rw[tj m g p.2.2.1 X];simp[ab₀]at h;subst h;refine⟨_,rfl,rfl,?_,.refl m⟩;cases dst with
     | none=>exact w g
     | some d=>exact(w g).set (dU (by rfl)) d
    .simp at h
   .simp at h
  .simp at h
 | .dist a b,p,S,u,H,B,o,g,m,h=>by
  simp only[cC,ac₀]at p;simp only[exec]at h ⊢;split at h
  next x y N hy=>
   split at h
   next hd=>
    simp only[ab₀]at h;subst h;obtain⟨x',A,w⟩:=oX m g p.1 N;obtain⟨y',z,C⟩:=oX m g p.2 hy;rw[A,z];simp only;rw[if_pos<|Ak w C hd];exact⟨_,rfl,rfl,g,.refl m⟩
   .simp at h
  .simp at h
 | .seq a b,p,S,u,H,B,o,g,m,h=>by
  simp only[cC,ac₀]at p;simp only[exec]at h ⊢;split at h
  next S1 H1 A=>
   obtain⟨⟨x,J,P⟩,w,z,C,D⟩:=cZ f q n a p.1 S u H B _ g m A;simp only at z C D;subst z;rw[w];obtain⟨o',L,M,h8,h9⟩:=cZ f q n b p.2 S1 J H1 P o C D.sh h;exact⟨o',L,M,h8,D.trans h9⟩
  next G=>
   obtain⟨o',w,z⟩:=cZ f q n a p.1 S u H B _ g m h;refine⟨o',?_,z⟩;rw[w];obtain⟨x,J,P⟩:=o';cases x with
   | normal=>
    obtain⟨y,R,Q⟩:=o;have:=z.1;simp only at this;subst this;exact(G R Q h).elim
   | exit j=>rfl
   | ret=>rfl
 | .cond c a b,p,S,u,H,B,o,g,m,h=>by
  simp only[cC,ac₀]at p;simp only[exec]at h ⊢;split at h
  next N=>
   obtain⟨x',A,w⟩:=oX m g p.1 N;cases w;rw[A];exact cZ f q n a p.2.1 S u H B _ g m h
  next N=>
   obtain⟨x',A,w⟩:=oX m g p.1 N;cases w;rw[A];exact cZ f q n b p.2.2 S u H B _ g m h
  .simp at h
 | .block i b,p,S,u,H,B,o,g,m,h=>by
  simp only[cC]at p;simp only[exec]at h ⊢;split at h
  next j S1 H1 A=>
   obtain⟨⟨x,J,P⟩,w,z,C,D⟩:=cZ f q n b p S u H B _ g m A;simp only at z C D;subst z;rw[w];simp only;split at h
   next e=>rw[if_pos e];simp only[ab₀]at h;subst h;exact⟨_,rfl,rfl,C,D⟩
   next e=>rw[if_neg e];simp only[ab₀]at h;subst h;exact⟨_,rfl,rfl,C,D⟩
  next G=>
   obtain⟨o',w,z⟩:=cZ f q n b p S u H B _ g m h;refine⟨o',?_,z⟩;rw[w];obtain⟨x,J,P⟩:=o';cases x with
   | exit j=>
    obtain⟨y,R,Q⟩:=o;have:=z.1;simp only at this;subst this;exact(G j R Q h).elim
   | normal=>rfl
   | ret=>rfl
 | .loop b,p,S,u,H,B,o,g,m,h=>by
  simp only[cC]at p;simp only[exec]at h ⊢;exact Cq (λS u H B o g m h=>cZ f q n b p S u H B o g m h) n S u H B o g m h
def AJ{vs c:XV}(h:LSh k vs c):Sh k (aR vs)<|aR c:=by
 have e:∀{a b:XV},LSh k a b->Sh k (.tuple a.toArray) (.tuple b.toArray):=λ{a b} h=>.tuple _ _ Ya (by simpa using h.2);unfold aR;split
 .obtain⟨y,rfl,f⟩:=h.one rfl;exact f
 next d=>
  split
  next v=>
   have:=h.1
   match vs,this with
   | [x],_=>exact(d x rfl).elim
  .exact e h
def lC(n:Nat):LSh k (List.replicate n undef)<|List.replicate n undef:=by
 induction n with
 | zero=>exact LSh.nil
 | succ n a=>rw[List.replicate_succ];exact LSh.cons (dU (by rfl)) a
def yU{cp:Wl}(F:∀f cf,cp f=some cf->fo cf=true){o p:CallR}(A:CShR k o p){lo c n:Nat}(l:k.le c lo){g:FuncId}{args a:XV}(s:LSh k args a){t d:Value}(G:Sh k t d){H B:Heap}(z:HSh k H B){H':Heap}
  (h:jv cp o lo n g args t H=some H'):∃m,jv cp p c n g a d B=some m/\MSh k B H' m:=by
 unfold jv at h ⊢;split at h<;>try simp at h;done
 rename_i e i;have b:=F g e i;simp[fo,ac₀]at b;split at h<;>try simp at h;done
 rename_i j C;split at h<;>try simp at h;done
 rename_i D;simp[C,if_pos (show a.length=e.np by rw[<-s.1];exact D)];split at h<;>try simp at h;done
 all_goals
  rename_i J I v;simp at h;subst h;have⟨⟨x,K,u⟩,w,q,y,r⟩:=cZ A l n e.body b.1 _ _ _ _ _ ((s.append<|lC _).set G j) z v;simp only at q y r;subst q;rw[w];exact⟨u,rfl,r⟩
def pZ{a:List E}(i:a.all dN=true){S c:XV}(g:LSh k S c){H B:Heap}(f:HSh k H B){r:Value ⊕ Value}{H':Heap}(h:oa a S H=some (r,H')):H'=H/\∃r',oa a c B=some (r',B)/\RSh k r r':=by
 unfold oa at h ⊢;split at h<;>try simp at h;done
 rename_i vs b;simp[ab₀,ad₀]at h;obtain⟨rfl,rfl⟩:=h;have⟨j,d,e⟩:=vm f g i b;rw[d];exact⟨rfl,_,rfl,(AJ e:RSh k (.inl _)<|.inl _)⟩
def ME{cp:Wl}(hp:∀f cf,cp f=some cf->fo cf=true){cA cB:CallR}(s:CShR k cA cB){lo L n j:Nat}(a:k.le L lo){D:List E}(e:D.all dN=true){b u rest:Stm}(J:cC b=true)(hm:cC u=true)(hr:cC rest=true)
  {S S':XV} (Y:LSh k S S') {H B:Heap} (X:HSh k H B) {r:Value ⊕ Value} {H':Heap} (h:iT cp cA lo n D b u j rest S H=some (r,H')):∃r' B',iT cp cB L n D b u j rest S' B=some (r',B')/\RSh k r r'/\MSh k B H' B':=by
 unfold iT at h;split at h
 next S1 H1 I=>
  have⟨⟨x,S2,R⟩,C,v,w,q⟩:=cZ s a n b J _ _ _ _ _ Y X I;simp only at v w q;subst v;obtain⟨rfl,r',W,h7⟩:=pZ e w q.sh h;exact⟨r',R,by simp[iT,C,W],h7,q⟩
 next i p S1 H1 I=>
  have⟨⟨x,S2,R⟩,C,v,w,q⟩:=cZ s a n b J _ _ _ _ _ Y X I;simp only at v w q;subst v;obtain⟨q',S3,rfl,W,h7⟩:=w.of_cons;split at h<;>try simp at h;done
  rename_i Z;simp[ab₀,ad₀]at h;obtain⟨rfl,rfl⟩:=h;exact⟨.inr q',R,by simp[iT,C,if_pos Z],W,q⟩
 next S1 H1 I=>
  have⟨⟨x,S2,R⟩,C,v,w,q⟩:=cZ s a n b J _ _ _ _ _ Y X I;simp only at v w q;subst v;split at h<;>try simp at h;done
  rename_i S3 H3 g1;have⟨⟨x,T,B4⟩,V,g3,F,t⟩:=cZ s a n u hm _ _ _ _ _ w q.sh g1;simp only at g3 F t;subst g3;have t:=q.trans t;split at h<;>try simp at h;done
  rename_i g A U hg
  have a0:j<T.length:=by rw[<-F.1];exact(List.getElem?_eq_some_iff.1 hg).1
  have m:T[j]?=some T[j]:=bc₀ a0;have K:=F.2 j _ _ hg m;generalize T[j]=fv at m K;cases K with
  | func _ _ _ a' b' ha J ra rb=>
  have d:LSh k (A.toList++U.toList)<|a'.toList++b'.toList:=(LSh.arr.2 ⟨ha,ra⟩).append<|LSh.arr.2 ⟨J,rb⟩;split at h
  next S5 H5 M=>
   have⟨⟨x,S6,B6⟩,N,y,z,c⟩:=cZ s a n rest hr _ _ _ _ _ F t.sh M;simp only at y z c;subst y;have c:=t.trans c;split at h<;>try simp at h;done
   rename_i H7 o;have⟨G,O,l⟩:=yU hp s a d (.nilIface) c.sh o;have l:=c.trans l;obtain⟨rfl,r',P,Q⟩:=pZ e z l.sh h;exact⟨r',G,by simp[iT,C,V,m,N,O,P],Q,l⟩
  next S5 H5 M=>
   have⟨⟨x,S6,B6⟩,N,y,z,c⟩:=cZ s a n rest hr _ _ _ _ _ F t.sh M;simp only at y z c;subst y;have c:=t.trans c;split at h<;>try simp at h;done
   rename_i H7 o;have⟨G,O,l⟩:=yU hp s a d (.nilIface) c.sh o;have l:=c.trans l;obtain⟨rfl,r',P,Q⟩:=pZ e z l.sh h;exact⟨r',G,by simp[iT,C,V,m,N,O,P],Q,l⟩
  next i p S5 H5 M=>
   have⟨⟨x,S6,B6⟩,N,y,z,c⟩:=cZ s a n rest hr _ _ _ _ _ F t.sh M;simp only at y z c;subst y;have c:=t.trans c;obtain⟨q',S7,rfl,v1,v2⟩:=z.of_cons;split at h<;>try simp at h;done
   rename_i Z;split at h<;>try simp at h;done
   rename_i H7 o;have⟨G,O,l⟩:=yU hp s a d v1 c.sh o;have l:=c.trans l;obtain⟨rfl,r',P,Q⟩:=pZ e v2 l.sh h;exact⟨r',G,by simp[iT,C,V,m,N,if_pos Z,O,P],Q,l⟩
  .grind
 .grind
def od{cp:Wl}(r:∀f cf,cp f=some cf->fo cf=true):∀n,CShR k (run cp n)<|run cp n
 | 0=>λlo J f args m H B v H' _ _ _ h=>by simp[run]at h
 | n+1=>λlo J f args m H B v H' d z C h=>by
  simp[run]at h ⊢;split at h<;>try simp at h;done
  rename_i cf I;have a:=r f cf I;simp only[fo,ac₀]at a;split at h<;>try simp at h;done
  rename_i P;rw[if_pos (by rw[<-z.1];exact P)];split at h
  next D=>
   have w:∀{S e F t},LSh k S F->HSh k e t->(match evList S e cf.res with|some vs=>some (Sum.inl<|aR vs,e)|none=>none)=some (v,H')->e=H'/\∃s,(match evList F t cf.res with|some vs=>some (Sum.inl<|aR vs,t)|none=>none)=some (s,t)/\RSh k v s:=by
    intro S e F t M G N;have⟨o,p⟩:=pZ a.2.1 M G N;exact⟨o.symm,p⟩
   split at h
   next K e o=>
    have⟨⟨x,L,u⟩,p,i,l,c⟩:=cZ (od r n) d n cf.body a.1 _ _ _ _ _ (z.append<|lC _) C o;simp only at i l c;subst i;rw[p];obtain⟨rfl,s,y,A⟩:=w l c.sh h;exact⟨s,u,y,A,c⟩
   next K e o=>
    have⟨⟨x,L,u⟩,p,i,l,c⟩:=cZ (od r n) d n cf.body a.1 _ _ _ _ _ (z.append<|lC _) C o;simp only at i l c;subst i;rw[p];obtain⟨rfl,s,y,A⟩:=w l c.sh h;exact⟨s,u,y,A,c⟩
   next j q K e o=>
    have⟨⟨x,L,u⟩,p,i,l,c⟩:=cZ (od r n) d n cf.body a.1 _ _ _ _ _ (z.append<|lC _) C o;simp only at i l c;subst i;obtain⟨T,R,rfl,y,A⟩:=l.of_cons;rw[p];simp only;split at h
    next O=>
     rw[if_pos O];simp[ab₀,ad₀]at h;obtain⟨rfl,rfl⟩:=h;exact⟨_,u,rfl,y,c⟩
    .grind
   .grind
  next Q j rest D=>
   have b:=a.2.2;rw[D]at b;simp[B5,ac₀]at b;exact ME r (od r n) d a.2.1 a.1 b.1 b.2 (z.append<|lC _) C h
  .grind
  next g D=>
   have b:=a.2.2;rw[D]at b;simp[B5]at b
end
end Go.Abs
