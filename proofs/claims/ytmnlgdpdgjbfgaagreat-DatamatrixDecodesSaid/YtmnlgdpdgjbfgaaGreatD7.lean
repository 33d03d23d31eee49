/- Lemmas. -/
import Derived.Test.YtmnlgdpdgjbfgaaGreatD6
set_option linter.all false
namespace Go.Abs
def Ev(cp:FuncId->Option CF)(lo:Nat)(f:FuncId)(args:List Value)(H:Heap)(R:Value->Heap->Prop):Prop:=
 ∃N v H',(∀n,N<=n->run cp n lo f args H=some (.inl v,H'))/\R v H'
theorem Ev.mono{cp:FuncId->Option CF}{lo:Nat}{f:FuncId}{args:List Value}{H:Heap}{R R':Value->Heap->Prop}(h:Ev cp lo f args H R)(hr:∀v H',R v H'->R' v H'):Ev cp lo f args H R':=by
 obtain⟨N,v,H',h1,h2⟩:=h;exact⟨N,v,H',h1,hr _ _ h2⟩
def EvP(cp:FuncId->Option CF)(lo:Nat)(f:FuncId)(args:List Value)(H:Heap)(R:Value->Heap->Prop):Prop:=
 ∃N v H',(∀n,N<=n->run cp n lo f args H=some (.inr v,H'))/\R v H'
theorem EvP.mono{cp:FuncId->Option CF}{lo:Nat}{f:FuncId}{args:List Value}{H:Heap}{R R':Value->Heap->Prop}(h:EvP cp lo f args H R)(hr:∀v H',R v H'->R' v H'):EvP cp lo f args H R':=by
 obtain⟨N,v,H',h1,h2⟩:=h;exact⟨N,v,H',h1,hr _ _ h2⟩
abbrev bz:=Ex->List Value->Heap->Prop
def setD(S:List Value)(dst:Option Nat)(v:Value):List Value:=match dst with|some d=>S.set d v|none=>S
def dP(lo:Nat)(o:HOp)(vs:List Value)(H:Heap):Option (Value×Heap):=hsem (fun _ _ _ _=>none) lo o vs H
def wpH(cp:FuncId->Option CF)(lo:Nat)(o:HOp)(vs:List Value)(H:Heap)(R:Value->Heap->Prop):Prop:=
 match o with
 | .call raise=>match vs with
  | .func (.func f) first cap::args=>Ev cp (if raise then H.length else lo) f (first.toList++args++cap.toList) H R
  | _=>False
 | .callC=>match vs with
  | .func (.func f) first cap::args=>Ev cp lo f (first.toList++args++cap.toList) H R
  | _=>False
 | o=>match dP lo o vs H with
  | some (v,H')=>R v H'
  | none=>False
def wpP(cp:FuncId->Option CF)(lo:Nat)(o:HOp)(vs:List Value)(H:Heap)(R:Value->Heap->Prop):Prop:=
 match o with
 | .call false=>match vs with
  | .func (.func f) first cap::args=>EvP cp lo f (first.toList++args++cap.toList) H R
  | _=>False
 | .pan=>match vs with
  | [.iface t v]=>R (.iface t v) H
  | _=>False
 | _=>False
def wpS(cp:FuncId->Option CF)(lo:Nat):Stm->bz->List Value->Heap->Prop
 | .skip,Q,S,H=>Q .normal S H
 | .sets l chk,Q,S,H=>match evSets S H l with
  | some vs=>evChk S H chk=true/\Q .normal (setAll S vs) H
  | none=>False
 | .hv l chk pc dst o a,Q,S,H=>match evSets S H l with
  | some vs=>evChk S H chk=true/\match holds S H pc with
   | some true=>match ev S H a with
    | some xs=>(wpH cp lo o xs H fun v H'=>Q .normal (setD (setAll S vs) dst v) H')\/(wpP cp lo o xs H fun v H'=>Q (.exit cF) (v::setAll S vs) H')
    | none=>False
   | some false=>Q .normal (setD (setAll S vs) dst undef) H
   | none=>False
  | none=>False
 | .dist a b,Q,S,H=>match ev1 S H a,ev1 S H b with
  | some x,some y=>(ag x=none\/ag x≠ag y)/\Q .normal S H
  | _,_=>False
 | .seq a b,Q,S,H=>wpS cp lo a (fun ex S' H'=>match ex with | .normal=>wpS cp lo b Q S' H'|ex=>Q ex S' H') S H
 | .cond c a b,Q,S,H=>match ev1 S H c with
  | some (.bool t)=>(t=true->wpS cp lo a Q S H)/\(t=false->wpS cp lo b Q S H)
  | _=>False
 | .block i b,Q,S,H=>wpS cp lo b (fun ex S' H'=>match ex with | .exit j=>if j=i then Q .normal S' H' else Q (.exit j) S' H'|ex=>Q ex S' H') S H
 | .loop b,Q,S,H=>∃(J:Nat->List Value->Heap->Prop) (m:Nat),J m S H/\∀m S H,J m S H->wpS cp lo b (fun ex S' H'=>match ex with | .normal=>∃m',m'<m/\J m' S' H'|ex=>Q ex S' H') S H
 | .exit i,Q,S,H=>Q (.exit i) S H
 | .ret,Q,S,H=>Q .ret S H
 | .alt l s r,Q,S,H=>match S with
  | .int .i64 t::S0=>(t=(l:Nat)->wpS cp lo s Q S0 H)/\(t≠(l:Nat)->wpS cp lo r Q S H)
  | _=>False
 | .scope b alts,Q,S,H=>∃(J:Nat->Nat->List Value->Heap->Prop),
   wpS cp lo b (fun ex S' H'=>match ex with | .exit j=>if bC<=j then ∃m,J m (j-bC) S' H' else Q (.exit j) S' H'|ex=>Q ex S' H') S H /\
   ∀m l S H,J m l S H->wpS cp lo alts (fun ex S' H'=>match ex with | .exit j=>if bC<=j then ∃m',m'<m/\J m' (j-bC) S' H' else Q (.exit j) S' H'|ex=>Q ex S' H') (.int .i64 ((l:Nat):Int)::S) H
set_option maxHeartbeats 4000000 in
theorem vj{callA:dm}{lo:Nat}{o:HOp}{vs:List Value}{H:Heap}(h:o.isCall=false):hsem callA lo o vs H=dP lo o vs H:=by
 cases o<;>simp[HOp.isCall]at h
 all_goals (rcases vs with _|⟨a,_|⟨b,_|⟨c,r⟩⟩⟩)<;>first|rfl|(cases a<;>first|rfl|(rename_i ad;cases ad<;>first|rfl|(rename_i ad;rcases ad with ⟨i,o,_|z⟩<;>rfl))|(rename_i ad _ _;cases ad<;>first|rfl|(cases b<;>first|rfl|(rename_i bd _ _;cases bd<;>rfl)))|(cases b<;>first|rfl|(rename_i bd _ _;cases bd<;>rfl)))
theorem M8{cp:FuncId->Option CF}{lo:Nat}{o:HOp}{vs:List Value}{H:Heap}{R:Value->Heap->Prop}(h:wpH cp lo o vs H R):∃N v H',(∀n,N<=n->hsem (run cp n).ret lo o vs H=some (v,H'))/\R v H':=by
 unfold wpH at h;split at h
 ·rename_i raise
  split at h
  ·obtain⟨N,v,H',h1,h2⟩:=h
   exact⟨N,v,H',fun n hn=>by simp only[hsem];exact qI (h1 n hn),h2⟩
  ·exact h.elim
 ·split at h
  ·obtain⟨N,v,H',h1,h2⟩:=h
   exact⟨N,v,H',fun n hn=>by simp only[hsem];exact qI (h1 n hn),h2⟩
  ·exact h.elim
 ·rename_i o2 hne hne2
  have hc:o.isCall=false:=by
   cases o<;>first|rfl|exact(hne _ rfl).elim|exact(hne2 rfl).elim
  split at h
  ·rename_i v H' hs
   exact⟨0,v,H',fun n _=>by rw[vj hc];exact hs,h⟩
  ·exact h.elim
theorem yA{c:CallR}{lo:Nat}{o:HOp}{vs:List Value}{H:Heap}{r:Value×Heap}(h:cm c lo o vs H=some r):hsem c.ret lo o vs H=none:=by
 unfold cm at h;split at h
 ·simp only[hsem,ah₀,if_false,CallR.ret,qp h]
 ·rfl
 ·simp at h
theorem M9{cp:FuncId->Option CF}{lo:Nat}{o:HOp}{vs:List Value}{H:Heap}{R:Value->Heap->Prop}(h:wpP cp lo o vs H R):∃N v H',(∀n,N<=n->cm (run cp n) lo o vs H=some (v,H'))/\R v H':=by
 unfold wpP at h;split at h
 ·split at h
  ·obtain⟨N,v,H',h1,h2⟩:=h
   exact⟨N,v,H',fun n hn=>by grind[cm,xS],h2⟩
  simp_all
 ·split at h
  ·exact⟨0,_,H,fun n hn=>rfl,h⟩
  simp_all
 simp_all
theorem iw{cp:FuncId->Option CF}{lo:Nat}:∀(st:Stm) (Q:bz) (S:List Value) (H:Heap),wpS cp lo st Q S H->∃N ex S' H',(∀n,N<=n->exec (run cp n) lo n st S H=some (ex,S',H'))/\Q ex S' H'
 | .skip,Q,S,H,h=>⟨0,.normal,S,H,fun _ _=>rfl,h⟩
 | .sets l chk,Q,S,H,h=>by
  simp only[wpS]at h;split at h
  ·rename_i vs hvs;exact⟨0,.normal,_,H,fun _ _=>by grind[exec],h.2⟩
  simp_all
 | .hv l chk pc dst o a,Q,S,H,h=>by
  simp only[wpS]at h;split at h
  ·rename_i vs hvs
   obtain⟨hchk,h⟩:=h;split at h
   ·rename_i hp
    split at h
    ·rename_i xs hxs
     rcases h with h|h
     ·obtain⟨N,v,H',h1,h2⟩:=M8 h
      refine⟨N,.normal,_,H',fun n hn=>?_,h2⟩;simp only[exec,hvs,hchk,if_true,hp,hxs,h1 n hn];rfl
     ·obtain⟨N,v,H',h1,h2⟩:=M9 h
      refine⟨N,.exit cF,_,H',fun n hn=>?_,h2⟩
      grind[exec,yA]
    simp_all
   ·rename_i hp
    refine⟨0,.normal,_,H,fun n _=>?_,h⟩;simp only[exec,hvs,hchk,if_true,hp];rfl
   simp_all
  simp_all
 | .dist a b,Q,S,H,h=>by
  simp only[wpS]at h;split at h
  ·rename_i x y hx hy;exact⟨0,.normal,S,H,fun _ _=>by grind[exec],h.2⟩
  simp_all
 | .seq a b,Q,S,H,h=>by
  simp only[wpS]at h;obtain⟨N,ex,S1,H1,h1,h2⟩:=iw a _ S H h;cases ex with
  | normal=>
   obtain⟨N2,ex2,S2,H2,h3,h4⟩:=iw b Q S1 H1 h2;exact⟨max N N2,ex2,S2,H2,fun n hn=>by grind[exec],h4⟩
  | exit i=>exact⟨N,.exit i,S1,H1,fun n hn=>by grind[exec],h2⟩
  | ret=>exact⟨N,.ret,S1,H1,fun n hn=>by grind[exec],h2⟩
 | .cond c a b,Q,S,H,h=>by
  simp only[wpS]at h;split at h
  ·rename_i t ht
   cases t
   ·obtain⟨N,ex,S1,H1,h1,h2⟩:=iw b Q S H (h.2 rfl)
    exact⟨N,ex,S1,H1,fun n hn=>by grind[exec],h2⟩
   ·obtain⟨N,ex,S1,H1,h1,h2⟩:=iw a Q S H (h.1 rfl)
    exact⟨N,ex,S1,H1,fun n hn=>by grind[exec],h2⟩
  simp_all
 | .block i b,Q,S,H,h=>by
  simp only[wpS]at h;obtain⟨N,ex,S1,H1,h1,h2⟩:=iw b _ S H h;cases ex with
  | normal=>exact⟨N,.normal,S1,H1,fun n hn=>by grind[exec],h2⟩
  | exit j=>
   simp only at h2;split at h2
   ·rename_i hj;exact⟨N,.normal,S1,H1,fun n hn=>by grind[exec],h2⟩
   ·rename_i hj;exact⟨N,.exit j,S1,H1,fun n hn=>by grind[exec],h2⟩
  | ret=>exact⟨N,.ret,S1,H1,fun n hn=>by grind[exec],h2⟩
 | .loop b,Q,S,H,h=>by
  simp only[wpS]at h;obtain⟨J,m,hJ,hstep⟩:=h;have key:∀m S H,J m S H->∃N ex S' H',(∀n k,N<=n->N<=k->iter (exec (run cp n) lo n b) k S H=some (ex,S',H'))/\Q ex S' H':=by
   intro m
   induction m using Nat.strongRecOn with
   | _ m ih=>
    intro S H hJ;obtain⟨N,ex,S1,H1,h1,h2⟩:=iw b _ S H (hstep m S H hJ);cases ex with
    | normal=>
     obtain⟨m',hlt,hJ'⟩:=h2;obtain⟨N2,ex2,S2,H2,h3,h4⟩:=ih m' hlt S1 H1 hJ';refine⟨max N N2+1,ex2,S2,H2,fun n k hn hk=>?_,h4⟩;obtain⟨k',rfl⟩:∃k',k=k'+1:=⟨k-1,byO⟩
     grind[iter]
    | exit i=>
     refine⟨N+1,.exit i,S1,H1,fun n k hn hk=>?_,h2⟩;obtain⟨k',rfl⟩:∃k',k=k'+1:=⟨k-1,byO⟩
     grind[iter]
    | ret=>
     refine⟨N+1,.ret,S1,H1,fun n k hn hk=>?_,h2⟩;obtain⟨k',rfl⟩:∃k',k=k'+1:=⟨k-1,byO⟩
     grind[iter]
  obtain⟨N,ex,S',H',h1,h2⟩:=key m S H hJ;exact⟨N,ex,S',H',fun n hn=>by grind[exec],h2⟩
 | .exit i,Q,S,H,h=>⟨0,.exit i,S,H,fun _ _=>rfl,h⟩
 | .ret,Q,S,H,h=>⟨0,.ret,S,H,fun _ _=>rfl,h⟩
 | .alt l s r,Q,S,H,h=>by
  simp only[wpS]at h;split at h
  ·rename_i t S0
   by_cases ht:t=(l:Nat)
   ·obtain⟨N,ex,S1,H1,h1,h2⟩:=iw s _ S0 H (h.1 ht)
    exact⟨N,ex,S1,H1,fun n hn=>by grind[exec],h2⟩
   ·obtain⟨N,ex,S1,H1,h1,h2⟩:=iw r _ _ H (h.2 ht)
    exact⟨N,ex,S1,H1,fun n hn=>by grind[exec],h2⟩
  simp_all
 | .scope b alts,Q,S,H,h=>by
  simp only[wpS]at h;obtain⟨J,hb,hstep⟩:=h;have key:∀m l S H,J m l S H->∃N ex S' H',(∀n k,N<=n->N<=k->hop (exec (run cp n) lo n alts) k (exec (run cp n) lo n alts (.int .i64 ((l:Nat):Int)::S) H)=some (ex,S',H'))/\Q ex S' H':=by
   intro m
   induction m using Nat.strongRecOn with
   | _ m ih=>
    intro l S H hJ;obtain⟨N,ex,S1,H1,h1,h2⟩:=iw alts _ _ H (hstep m l S H hJ);cases ex with
    | normal=>exact⟨N,.normal,S1,H1,fun n k hn hk=>by rw[h1 n hn];cases k<;>rfl,h2⟩
    | ret=>exact⟨N,.ret,S1,H1,fun n k hn hk=>by rw[h1 n hn];cases k<;>rfl,h2⟩
    | exit j=>
     simp only at h2;split at h2
     ·obtain⟨m',hlt,hJ'⟩:=h2
      obtain⟨N2,ex2,S2,H2,h3,h4⟩:=ih m' hlt _ S1 H1 hJ';refine⟨max N N2+1,ex2,S2,H2,fun n k hn hk=>?_,h4⟩;obtain⟨k',rfl⟩:∃k',k=k'+1:=⟨k-1,byO⟩
      grind[hop]
     ·rename_i hj
      exact⟨N,.exit j,S1,H1,fun n k hn hk=>by rw[h1 n hn];cases k<;>simp only[hop,if_neg hj],h2⟩
  obtain⟨N,ex,S1,H1,h1,h2⟩:=iw b _ S H hb;cases ex with
  | normal=>exact⟨N,.normal,S1,H1,fun n hn=>by simp only[exec];rw[h1 n hn];cases n<;>rfl,h2⟩
  | ret=>exact⟨N,.ret,S1,H1,fun n hn=>by simp only[exec];rw[h1 n hn];cases n<;>rfl,h2⟩
  | exit j=>
   simp only at h2;split at h2
   ·obtain⟨m',hJ'⟩:=h2
    obtain⟨N2,ex2,S2,H2,h3,h4⟩:=key m' _ S1 H1 hJ';refine⟨max N N2+1,ex2,S2,H2,fun n hn=>?_,h4⟩;simp only[exec];obtain⟨n',rfl⟩:∃n',n=n'+1:=⟨n-1,byO⟩
    grind[hop]
   ·rename_i hj
    exact⟨N,.exit j,S1,H1,fun n hn=>by simp only[exec];rw[h1 n hn];cases n<;>simp only[hop,if_neg hj],h2⟩
def eP(cf:CF)(R:Value->Heap->Prop):bz:=fun ex S H=>match ex with
 | .exit _=>False
 | _=>match evList S H cf.res with
  | some vs=>R (aM vs) H
  | none=>False
theorem Cu{cp:FuncId->Option CF}{lo:Nat}{f:FuncId}{cf:CF}{args:List Value}{H:Heap}{R:Value->Heap->Prop}(hcf:cp f=some cf)(hk:cf.kind=.plain)(hnp:args.length=cf.np)
  (h:wpS cp lo cf.body (eP cf R) (args++List.replicate (cf.ns-cf.np) undef) H):Ev cp lo f args H R:=by
 obtain⟨N,ex,S',H',h1,h2⟩:=iw _ _ _ _ h;have fin:∀(ex:Ex),(ex=.normal\/ex=.ret)->(∀n,N<=n->exec (run cp n) lo n cf.body (args++List.replicate (cf.ns-cf.np) undef) H=some (ex,S',H'))->eP cf R ex S' H'->Ev cp lo f args H R:=by
  intro ex hex h1 h2;have h3:match evList S' H' cf.res with|some vs=>R (aM vs) H'|none=>False:=by
   rcases hex with rfl|rfl<;>exact h2
  split at h3
  ·rename_i vs hvs
   refine⟨N+1,aM vs,H',fun n hn=>?_,h3⟩;obtain⟨n',rfl⟩:∃n',n=n'+1:=⟨n-1,byO⟩
   grind[run]
  simp_all
 cases ex with
 | normal=>simp_all
 | exit i=>exact h2.elim
 | ret=>simp_all
theorem vD{P:Program}{cp:FuncId->Option CF}(hok:∀base n,RunOK P base P.globals.size (run cp n)){f:FuncId}{args cargs:List Value}{H:Heap}{φ:Map}{w:World}{R:Value->Heap->Prop}
  (hH:HRel φ H.length P.globals.size H w) (hargs:LRel φ args cargs) (h:Ev cp H.length f args H R) :
  Calls P f cargs.toArray w fun e w'=>∃v cv H' φ',R v H'/\e=.returned cv/\Eff φ H.length P.globals.size H.length H w φ' H' w'/\VRel φ' v cv:=by
 obtain⟨N,v,H',h1,h2⟩:=h;have:=((hok H.length N).toRet H.length f args H v H' (Nat.le_refl _) (Nat.le_refl _) (qI (h1 N (Nat.le_refl _)))).2 φ w cargs hH hargs
 grind[Calls.mono]
structure Mv where
 n:Nat
 w:Nat
 b:Nat
 w1:w<=1
 bn:w=1->b<n
def Mv.f(k:Mv)(i:Nat):Nat:=if i<k.w then k.b else k.n+i-k.w
theorem Mv.ge(k:Mv){i:Nat}(h:k.w<=i):k.f i+k.w=k.n+i:=by grind[f]
theorem Mv.lt(k:Mv){i:Nat}(h:i<k.w):k.f i<k.n/\i=0:=by grind[f,w1,bn]
theorem Mv.or(k:Mv)(i:Nat):(k.w<=i/\k.f i+k.w=k.n+i)\/(i<k.w/\i=0/\k.f i<k.n):=by
 by_cases h:k.w<=i
 ·grind[ge]
 ·exact .inr ⟨byO,(k.lt byO).2,(k.lt byO).1⟩
theorem Mv.inj(k:Mv){i j:Nat}(h:k.f i=k.f j):i=j:=by have:=k.or i;have:=k.or j;omega
def Mv.le(k:Mv)(lo' lo:Nat):Prop:=k.w<=lo/\lo'+k.w<=k.n+lo
inductive Sh (k:Mv):Value->Value->Prop where
 | bool (b:Bool):Sh k (.bool b) (.bool b)
 | int (i:IntKind) (n:Int):Sh k (.int i n) (.int i n)
 | float (i:FloatKind) (n:Nat):Sh k (.float i n) (.float i n)
 | string (s:ByteArray):Sh k (.string s) (.string s)
 | nilPtr:Sh k (.pointer none) (.pointer none)
 | ptr (i o:Nat) (sp:Option Nat):Sh k (.pointer (some ⟨i,o,sp⟩)) (.pointer (some ⟨k.f i,o,sp⟩))
 | nilSlice (l c:Nat):Sh k (.slice none l c) (.slice none l c)
 | slice (i o l c:Nat) (sp:Option Nat):Sh k (.slice (some ⟨i,o,sp⟩) l c) (.slice (some ⟨k.f i,o,sp⟩) l c)
 | nilMap:Sh k (.map none) (.map none)
 | func (f:FuncId) (a b a' b':Array Value) (ha:a.size=a'.size) (hb:b.size=b'.size)
   (ra:∀(j:Nat) x y,a[j]?=some x->a'[j]?=some y->Sh k x y) (rb:∀(j:Nat) x y,b[j]?=some x->b'[j]?=some y->Sh k x y) :
   Sh k (.func (.func f) a b) (.func (.func f) a' b')
 | nilFunc:Sh k .nilFunc .nilFunc
 | iface (t:TypeId) (v v':Value) (h:Sh k v v'):Sh k (.iface t v) (.iface t v')
 | nilIface:Sh k .nilIface .nilIface
 | agg (a a':Array Value) (ha:a.size=a'.size) (ra:∀(j:Nat) x y,a[j]?=some x->a'[j]?=some y->Sh k x y):Sh k (.agg a) (.agg a')
 | tuple (a a':Array Value) (ha:a.size=a'.size) (ra:∀(j:Nat) x y,a[j]?=some x->a'[j]?=some y->Sh k x y):Sh k (.tuple a) (.tuple a')
def LSh(k:Mv)(l l':List Value):Prop:=l.length=l'.length/\∀(j:Nat) x y,l[j]?=some x->l'[j]?=some y->Sh k x y
section
variable {k:Mv}
theorem LSh.nil:LSh k [] []:=⟨rfl,fun j x y a=>by simp at a⟩
theorem LSh.cons{x y:Value}{l l':List Value}(h:Sh k x y)(r:LSh k l l'):LSh k (x::l) (y::l'):=by
 refine⟨by simp[r.1],fun j a b ha hb=>?_⟩;cases j with
 | zero=>simp_all
 | succ j=>exact r.2 j a b ha hb
theorem LSh.of_cons{x:Value}{l l':List Value}(r:LSh k (x::l) l'):∃y r',l'=y::r'/\Sh k x y/\LSh k l r':=by
 cases l' with
 | nil=>have:=r.1;simp at this
 | cons y r'=>
  refine⟨y,r',rfl,r.2 0 x y rfl rfl,?_,fun j a b ha hb=>r.2 (j+1) a b (by simp_all) (by simp_all)⟩;have:=r.1;simp_all
theorem LSh.of_nil{l':List Value}(r:LSh k [] l'):l'=[]:=by
 cases l' with
 | nil=>rfl
 | cons y r'=>have:=r.1;simp at this
theorem LSh.append{a b a' b':List Value}(h:LSh k a a')(g:LSh k b b'):LSh k (a++b) (a'++b'):=by
 refine⟨by simp[h.1,g.1],fun j x y hx hy=>?_⟩;by_cases hj:j<a.length
 ·rw[ax₀ hj]at hx
  rw[ax₀ (h.1▸hj)]at hy;exact h.2 j x y hx hy
 ·rw[aw₀ byO]at hx
  rw[aw₀ (by rw[<-h.1];omega)]at hy;exact g.2 (j-a.length) x y hx (by rw[h.1];exact hy)
theorem LSh.take{a a':List Value}(h:LSh k a a')(n:Nat):LSh k (a.take n) (a'.take n):=by
 refine⟨by simp[h.1],fun j x y hx hy=>?_⟩;rw[List.getElem?_take]at hx hy;split at hx
 ·rename_i hj;rw[if_pos hj]at hy;exact h.2 j x y hx hy
 ·simp at hx
theorem LSh.drop{a a':List Value}(h:LSh k a a')(n:Nat):LSh k (a.drop n) (a'.drop n):=by
 refine⟨by simp[h.1],fun j x y hx hy=>?_⟩;rw[List.getElem?_drop]at hx hy;exact h.2 _ x y hx hy
theorem LSh.arr{a a':Array Value}:LSh k a.toList a'.toList↔(a.size=a'.size/\∀(j:Nat) x y,a[j]?=some x->a'[j]?=some y->Sh k x y):=by
 simp[LSh]
theorem LSh.putCells{c c' v v':List Value}(h:LSh k c c')(g:LSh k v v')(off:Nat):LSh k (putCells c off v) (putCells c' off v'):=by
 unfold Abs.putCells;rw[<-g.1]
 grind[append,take,drop]
theorem LSh.set{S S':List Value}(h:LSh k S S'){v v':Value}(hv:Sh k v v')(j:Nat):LSh k (S.set j v) (S'.set j v'):=by
 refine⟨by simp[h.1],fun i x y hx hy=>?_⟩;rw[List.getElem?_set]at hx hy;split at hx
 ·simp_all
 ·rename_i e;rw[if_neg e]at hy;exact h.2 i x y hx hy
theorem Sh.cells{v c:Value}(h:Sh k v c):LSh k v.cells.toList c.cells.toList:=by
 have one:∀{v c:Value},Sh k v c->LSh k [v] [c]:=fun h=>LSh.cons h LSh.nil;cases h with
 | agg a a' ha ra=>exact LSh.arr.2 ⟨ha,ra⟩
 | bool b=>exact one (.bool b)
 | int k n=>exact one (.int k n)
 | float k n=>exact one (.float k n)
 | string s=>exact one (.string s)
 | nilPtr=>exact one .nilPtr
 | ptr i o sp=>exact one (.ptr i o sp)
 | nilSlice l c=>exact one (.nilSlice l c)
 | slice i o l c sp=>exact one (.slice i o l c sp)
 | nilMap=>exact one .nilMap
 | func f a b a' b' ha hb ra rb=>exact one (.func f a b a' b' ha hb ra rb)
 | nilFunc=>exact one .nilFunc
 | iface t v v' h=>exact one (.iface t v v' h)
 | nilIface=>exact one .nilIface
 | tuple a a' ha ra=>exact one (.tuple a a' ha ra)
theorem Sh.oneCell{v c:Value}(h:Sh k v c):c.oneCell'=v.oneCell':=by cases h<;>rfl
theorem LSh.oneCells{l l':List Value}(r:LSh k l l'):Abs.oneCells l'=Abs.oneCells l:=by
 unfold Abs.oneCells
 induction l generalizing l' with
 | nil=>rw[r.of_nil]
 | cons a l ih=>
  grind[of_cons,Sh.oneCell]
theorem l5{v:Value}(h:bO v=true):Sh k v v:=by
 unfold bO at h;split at h
 ·exact .bool _
 ·exact .int _ _
 ·exact .string _
 ·exact .nilPtr
 ·exact .nilSlice _ _
 ·exact .nilMap
 ·exact .nilFunc
 ·exact .nilIface
 ·exact .float _ _
 ·rename_i f a b
  simp at h;exact .func f a b a b rfl rfl (fun j x y hx=>by simp[h.1]at hx) (fun j x y hx=>by simp[h.2]at hx)
 ·simp at h
theorem eT{l:List Value}(h:l.all bO=true):LSh k l l:=by
 refine⟨rfl,fun j x y hx hy=>?_⟩;rw[hx]at hy;cases hy;exact l5 (List.all_eq_true.1 h _ (List.mem_of_getElem? hx))
theorem gF{v:Value}(h:fO v=true):Sh k v v:=by
 unfold fO at h;split at h
 ·rename_i cs;obtain⟨a,b⟩:=LSh.arr.1 (eT (k:=k) h);exact .agg cs cs a b
 ·rename_i cs;obtain⟨a,b⟩:=LSh.arr.1 (eT (k:=k) h);exact .tuple cs cs a b
 ·exact .iface _ _ _ (l5 h)
 ·exact l5 h
structure HSh (k:Mv)(H B:Heap):Prop where
 len:B.length+k.w=k.n+H.length/\k.w<=H.length
 get:∀i c,H.get i=some c->∃c',B.get (k.f i)=some c'/\LSh k c c'
theorem HSh.cells{H B:Heap}(h:HSh k H B){i off n:Nat}{l:List Value}(hc:H.cells i off n=some l):∃l',B.cells (k.f i) off n=some l'/\LSh k l l':=by
 unfold Heap.cells at hc ⊢;split at hc
 ·rename_i c hg
  obtain⟨c',h1,h2⟩:=h.get i c hg;rw[h1];simp only;split at hc
  ·rename_i hle
   rw[if_pos (by rw[<-h2.1];exact hle)]
   grind[LSh.take,LSh.drop]
  ·simp at hc
 ·simp at hc
def uW:LOp->Bool
 | .build zero _=>zero.all bO
 | .tas _ zero=>zero.all bO
 | _=>true
theorem AR{op:BinOp}{x y x' y' v:Value}(hx:Sh k x x')(hy:Sh k y y')(hs:bF op x y=some v):bF op x' y'=some v/\Sh k v v:=by
 have hv:bO v=true:=by
  unfold bF at hs;split at hs
  ·unfold gX bQ at hs
   repeat' split at hs
   all_goals (first|(simp at hs;done)|(simp at hs;subst hs;rfl))
  ·unfold p4 at hs
   repeat' split at hs
   all_goals (first|(simp at hs;done)|(simp at hs;subst hs;rfl))
  ·simp at hs
 refine⟨?_,l5 hv⟩;cases hx<;>cases hy<;>first|exact hs|(simp[bF]at hs)
theorem M2{v v':Value}(h:Sh k v v')(y:Nat):toB v' y=toB v y:=by cases h<;>rfl
theorem tt{l l':List Value}(h:LSh k l l')(y:Nat):l'.head?.bind (toB · y)=l.head?.bind (toB · y):=by
 cases l with
 | nil=>rw[h.of_nil]
 | cons x r=>
  obtain⟨x',r',rfl,h1,h2⟩:=h.of_cons;simp[M2 h1]
theorem um{l l':List Value}(h:LSh k l l'):LSh k l.tail l'.tail:=by
 have:=h.drop 1;simpa using this
theorem iJ{len cap:Nat}{lo hi mx:Bool}{a a':List Value}(h:LSh k a a'):bounds len cap lo hi mx a'=bounds len cap lo hi mx a:=by
 have h0:=tt h;have h1:=tt (um h);have h2:=tt (um (um h));unfold bounds;cases lo<;>cases hi<;>cases mx<;>simp only[ah₀,if_false,if_true,h0,h1,h2]
theorem nn:∀(ps:List (Nat×Nat)) (zero zero' vs vs' l:List Value),LSh k zero zero'->LSh k vs vs'->buildL zero ps vs=some l->∃l',buildL zero' ps vs'=some l'/\LSh k l l'
 | [],zero,zero',[],vs',l,hz,hv,h=>by
  simp[buildL]at h;subst h;rw[hv.of_nil];exact⟨zero',rfl,hz⟩
 | (off,sz)::ps,zero,zero',v::vs,vs',l,hz,hv,h=>by
  obtain⟨v',vs'',rfl,h1,h2⟩:=hv.of_cons;simp only[buildL]at h ⊢;split at h
  ·rename_i hc
   have hsz:=h1.cells.1;simp at hsz;rw[if_pos ⟨byO,by rw[<-hz.1];exact hc.2⟩];exact nn ps _ _ vs vs'' l (hz.putCells h1.cells off) h2 h
  ·simp at h
 | [],_,_,_::_,_,_,_,_,h=>by simp[buildL]at h
 | _::_,_,_,[],_,_,_,_,h=>by simp[buildL]at h
theorem AX{n:Nat}{x y x' y':Value}{b:Bool}(h:jN n x y=some b)(hx:Sh k x x')(hy:Sh k y y'):x'=x/\y'=y:=by
 unfold jN at h;split at h<;>simp at h<;>(cases hx;cases hy;exact⟨rfl,rfl⟩)
theorem pj:∀{ks:List Nat} {x y x' y':List Value} {b:Bool},aj ks x y=some b->LSh k x x'->LSh k y y'->x'=x/\y'=y
 | [],[],[],x',y',b,_,hx,hy=>⟨hx.of_nil,hy.of_nil⟩
 | n::ks,a::x,c::y,x',y',b,h,hx,hy=>by
  obtain⟨a',x'',rfl,ha,hx2⟩:=hx.of_cons;obtain⟨c',y'',rfl,hc,hy2⟩:=hy.of_cons;simp only[aj]at h;split at h
  ·rename_i p q hp hq
   obtain⟨rfl,rfl⟩:=AX hp ha hc;obtain⟨rfl,rfl⟩:=pj hq hx2 hy2;exact⟨rfl,rfl⟩
  ·simp at h
 | [],[],_::_,_,_,_,h,_,_=>by simp[aj]at h
 | [],_::_,_,_,_,_,h,_,_=>by simp[aj]at h
 | _::_,[],_,_,_,_,h,_,_=>by simp[aj]at h
 | _::_,_::_,[],_,_,_,h,_,_=>by simp[aj]at h
theorem pa:∀{l l':List Value} {bs:List UInt8},LSh k l l'->bytesOf l=some bs->l'=l
 | [],l',bs,h,_=>h.of_nil
 | v::r,l',bs,h,hb=>by
  obtain⟨v',r',rfl,hv,hr⟩:=h.of_cons;unfold bytesOf at hb;split at hb
  ·rename_i e;simp at e
  ·rename_i n r2 e
   simp at e;obtain⟨rfl,rfl⟩:=e;cases hv;simp at hb;obtain⟨a,ha,_⟩:=hb;rw[pa hr ha]
  ·simp at hb
theorem yv(isMax:Bool):∀{l l':List Value} {x v:Value},LSh k l l'->(∃i n,x=.int i n)->l.foldlM (oD isMax) x=some v->l'.foldlM (oD isMax) x=some v/\∃i n,v=.int i n
 | [],l',x,v,h,hx,hf=>by rw[h.of_nil];simp at hf;subst hf;exact⟨rfl,hx⟩
 | a::l,l',x,v,h,hx,hf=>by
  obtain⟨a',r',rfl,h1,h2⟩:=h.of_cons;obtain⟨i,n,rfl⟩:=hx;simp only[List.foldlM_cons,Option.bind_eq_bind,ae₀]at hf ⊢;obtain⟨m,hm,hf⟩:=hf;cases h1<;>simp[oD]at hm;subst hm;have:=yv isMax h2 ⟨_,_,rfl⟩ hf;exact⟨⟨_,rfl,this.1⟩,this.2⟩
theorem LSh.one{vs vs':List Value}(h:LSh k vs vs'){x:Value}(e:vs=[x]):∃x',vs'=[x']/\Sh k x x':=by
 grind[of_cons,of_nil]
theorem LSh.two{vs vs':List Value}(h:LSh k vs vs'){x y:Value}(e:vs=[x,y]):∃x' y',vs'=[x',y']/\Sh k x x'/\Sh k y y':=by
 subst e;obtain⟨a,r,rfl,h1,h2⟩:=h.of_cons;obtain⟨b,r',rfl,h3,h4⟩:=h2.of_cons;rw[h4.of_nil];exact⟨a,b,rfl,h1,h3⟩
set_option maxHeartbeats 2000000 in
theorem GW{l:LOp}(hl:uW l=true){vs vs':List Value}(hv:LSh k vs vs'){H B:Heap}(hH:HSh k H B){v:Value}(hs:aJ l vs H=some v):∃v',aJ l vs' B=some v'/\Sh k v v':=by
 unfold aJ at hs;split at hs
 ·obtain⟨x',rfl,h1⟩:=hv.one rfl;simp at hs;subst hs;exact⟨x',rfl,h1⟩
 ·obtain⟨x',y',rfl,h1,h2⟩:=hv.two rfl
  obtain⟨a,b⟩:=AR h1 h2 hs;exact⟨v,a,b⟩
 ·obtain⟨x',y',rfl,h1,h2⟩:=hv.two rfl;cases h1;cases h2;simp at hs;subst hs;exact⟨_,rfl,.bool _⟩
 ·obtain⟨x',y',rfl,h1,h2⟩:=hv.two rfl
  cases h1 with
  | agg a a' ha ra=>
   cases h2 with
   | agg b b' hb rb=>
    simp only[aa₀]at hs;obtain⟨r,hr,rfl⟩:=hs;obtain⟨e1,e2⟩:=pj hr (LSh.arr.2 ⟨ha,ra⟩) (LSh.arr.2 ⟨hb,rb⟩);exact⟨_,by simp only[aJ,e1,e2,hr];rfl,.bool _⟩
 ·obtain⟨x',y',rfl,h1,h2⟩:=hv.two rfl;cases h2;cases h1<;>(simp only[ab₀]at hs;subst hs;exact⟨_,rfl,.bool _⟩)
 ·obtain⟨x',y',rfl,h1,h2⟩:=hv.two rfl;cases h2;cases h1<;>(simp only[ab₀]at hs;subst hs;exact⟨_,rfl,.bool _⟩)
 ·obtain⟨x',rfl,h1⟩:=hv.one rfl;cases h1;simp at hs;subst hs;exact⟨_,rfl,.bool _⟩
 ·obtain⟨x',rfl,h1⟩:=hv.one rfl;cases h1;simp only[ab₀]at hs;subst hs;exact⟨_,rfl,.int _ _⟩
 ·obtain⟨x',rfl,h1⟩:=hv.one rfl;cases h1;simp[bQ]at hs;subst hs;exact⟨_,rfl,.int _ _⟩
 ·obtain⟨x',rfl,h1⟩:=hv.one rfl;cases h1;simp only[ab₀]at hs;subst hs;exact⟨_,rfl,.int _ _⟩
 ·obtain⟨x',rfl,h1⟩:=hv.one rfl;cases h1;simp at hs;subst hs;exact⟨_,rfl,.string _⟩
 ·obtain⟨x',rfl,h1⟩:=hv.one rfl;cases h1;simp at hs;subst hs;exact⟨_,rfl,.string _⟩
 ·obtain⟨x',rfl,h1⟩:=hv.one rfl
  cases h1;simp only[aa₀,ae₀]at hs;obtain⟨bs,⟨c,hc,hb⟩,rfl⟩:=hs;obtain⟨c',h2,h3⟩:=hH.cells hc;obtain rfl:=pa h3 hb;exact⟨_,by simp only[aJ,h2,ao₀,hb];rfl,.string _⟩
 ·obtain⟨x',rfl,h1⟩:=hv.one rfl;cases h1;simp at hs;subst hs;exact⟨_,rfl,.ptr _ _ _⟩
 ·obtain⟨x',rfl,h1⟩:=hv.one rfl
  cases h1 with
  | func f a b a' b' ha hb ra rb=>simp at hs;subst hs;exact⟨_,rfl,.func _ _ _ _ _ ha hb ra rb⟩
 ·obtain⟨x',rfl,h1⟩:=hv.one rfl;cases h1;simp at hs;subst hs;exact⟨_,rfl,.ptr _ _ _⟩
 ·obtain⟨x',rfl,h1⟩:=hv.one rfl
  cases h1 with
  | agg a a' ha ra=>
   rename_i off n agg a;cases agg
   ·simp only[ah₀,if_false]at hs
    have hlt:off<a'.size:=by rw[<-ha];exact(Array.getElem?_eq_some_iff.1 hs).1
    have h1:a'[off]?=some a'[off]:=Array.getElem?_eq_getElem hlt;exact⟨_,by simp only[aJ,ah₀,if_false];exact h1,ra _ _ _ hs h1⟩
   ·simp only[if_true]at hs
    split at hs
    ·rename_i hle
     simp at hs;subst hs;refine⟨_,by simp only[aJ,if_true];rw[if_pos byO],.agg _ _ (by simp[ha]) (fun j x y hx hy=>?_)⟩;rw[Array.getElem?_extract]at hx hy;split at hx
     ·split at hy
      ·exact ra _ _ _ hx hy
      ·simp at hy
     ·simp at hx
    ·simp at hs
 ·obtain⟨x',y',rfl,h1,h2⟩:=hv.two rfl
  cases h1;cases h2;split at hs
  ·rename_i hb;simp at hs;subst hs;exact⟨_,by simp only[aJ];rw[if_pos hb],.ptr _ _ _⟩
  ·simp at hs
 ·obtain⟨x',y',rfl,h1,h2⟩:=hv.two rfl
  cases h1;cases h2;split at hs
  ·rename_i hb;simp at hs;subst hs;exact⟨_,by simp only[aJ];rw[if_pos hb],.ptr _ _ _⟩
  ·simp at hs
 ·obtain⟨x',y',rfl,h1,h2⟩:=hv.two rfl
  cases h2;cases h1 with
  | agg a a' ha ra=>
   rename_i len sz agg a kk i;split at hs
   ·rename_i hb
    cases agg
    ·simp only[ah₀,if_false]at hs
     have hlt:i.toNat*sz<a'.size:=by rw[<-ha];exact(Array.getElem?_eq_some_iff.1 hs).1
     have h1:a'[i.toNat*sz]?=some a'[i.toNat*sz]:=Array.getElem?_eq_getElem hlt;exact⟨_,by simp only[aJ,ah₀,if_false];rw[if_pos hb];exact h1,ra _ _ _ hs h1⟩
    ·simp only[if_true]at hs
     split at hs
     ·rename_i hle
      simp at hs;subst hs;refine⟨_,by simp only[aJ,if_true];rw[if_pos hb,if_pos byO],.agg _ _ (by simp[ha]) (fun j x y hx hy=>?_)⟩;rw[Array.getElem?_extract]at hx hy;split at hx
      ·split at hy
       ·exact ra _ _ _ hx hy
       ·simp at hy
      ·simp at hx
     ·simp at hs
   ·simp at hs
 ·obtain⟨x',y',rfl,h1,h2⟩:=hv.two rfl
  cases h1;cases h2;split at hs
  ·rename_i hb
   simp only[aa₀]at hs;obtain⟨u,hu,rfl⟩:=hs;exact⟨_,by simp only[aJ];rw[if_pos hb,hu];rfl,.int _ _⟩
  ·simp at hs
 ·obtain⟨x',rfl,h1⟩:=hv.one rfl
  cases h1;rename_i n agg b o;cases agg
  ·simp only[ah₀,if_false,ae₀]at hs
   obtain⟨c,hc,hh⟩:=hs;obtain⟨c',h2,h3⟩:=hH.cells hc;cases c with
   | nil=>simp at hh
   | cons x r=>
    obtain⟨y,r',rfl,h4,h5⟩:=h3.of_cons;simp at hh;subst hh;exact⟨y,by simp only[aJ,ah₀,if_false,h2];rfl,h4⟩
  ·simp only[if_true,aa₀]at hs
   obtain⟨c,hc,rfl⟩:=hs;obtain⟨c',h2,h3⟩:=hH.cells hc;exact⟨.agg c'.toArray,by simp only[aJ,if_true,h2];rfl,.agg _ _ (by simp[h3.1]) (by simpa using h3.2)⟩
 ·obtain⟨x',rfl,h1⟩:=hv.one rfl;cases h1<;>(simp at hs;subst hs;exact⟨_,rfl,.int _ _⟩)
 ·obtain⟨x',rfl,h1⟩:=hv.one rfl;cases h1;simp only[ab₀]at hs;subst hs;exact⟨_,rfl,.int _ _⟩
 ·obtain⟨x',rfl,h1⟩:=hv.one rfl;simp at hs;subst hs;exact⟨_,rfl,.int _ _⟩
 ·obtain⟨x',r',rfl,h1,h2⟩:=hv.of_cons
  cases h1;simp only[aa₀]at hs;obtain⟨⟨l,h,m⟩,hb,rfl⟩:=hs;exact⟨_,by simp only[aJ,iJ h2,hb];rfl,.nilSlice _ _⟩
 ·obtain⟨x',r',rfl,h1,h2⟩:=hv.of_cons
  cases h1;simp only[aa₀]at hs;obtain⟨⟨l,h,m⟩,hb,rfl⟩:=hs;exact⟨_,by simp only[aJ,iJ h2,hb];rfl,.slice _ _ _ _ _⟩
 ·obtain⟨x',r',rfl,h1,h2⟩:=hv.of_cons
  cases h1;split at hs
  ·rename_i hz
   simp only[aa₀]at hs;obtain⟨⟨l,h,m⟩,hb,he⟩:=hs;rename_i sz lo hi mx b o z len cap args;by_cases hc:(mx&&cap != 0)=true
   ·simp only[hc,if_true]at he
    subst he;exact⟨_,by simp only[aJ];rw[if_pos hz,iJ h2,hb];simp only[Option.map_some,hc,if_true],.slice _ _ _ _ _⟩
   ·simp only[hc]at he
    subst he;exact⟨_,by simp only[aJ];rw[if_pos hz,iJ h2,hb];simp only[Option.map_some,hc];rfl,.slice _ _ _ _ _⟩
  ·simp at hs
 ·obtain⟨x',r',rfl,h1,h2⟩:=hv.of_cons
  cases h1;simp only[aa₀]at hs;obtain⟨⟨l,h,m⟩,hb,rfl⟩:=hs;exact⟨_,by simp only[aJ,iJ h2,hb];rfl,.slice _ _ _ _ _⟩
 ·obtain⟨x',r',rfl,h1,h2⟩:=hv.of_cons
  cases h1;simp only[aa₀]at hs;obtain⟨⟨l,h,m⟩,hb,rfl⟩:=hs;exact⟨_,by simp only[aJ,iJ h2,hb];rfl,.string _⟩
 ·obtain⟨x',rfl,h1⟩:=hv.one rfl
  cases h1 with
  | tuple a a' ha ra=>
   rename_i i a;have hlt:i<a'.size:=by rw[<-ha];exact(Array.getElem?_eq_some_iff.1 hs).1
   have h1:a'[i]?=some a'[i]:=Array.getElem?_eq_getElem hlt;exact⟨_,h1,ra _ _ _ hs h1⟩
 ·simp only[aa₀]at hs
  obtain⟨c,hc,rfl⟩:=hs;obtain⟨c',h1,h2⟩:=nn _ _ _ _ _ _ (eT (by simpa[uW]using hl)) hv hc;exact⟨.agg c'.toArray,by simp only[aJ,h1];rfl,.agg _ _ (by simp[h2.1]) (by simpa using h2.2)⟩
 ·simp at hs;subst hs
  rename_i f n;exact⟨_,rfl,.func _ _ _ _ _ (by simp[hv.1]) (by simp[hv.1]) (by simpa using(hv.take n).2) (by simpa using(hv.drop n).2)⟩
 ·obtain⟨x',rfl,h1⟩:=hv.one rfl;simp at hs;subst hs;exact⟨_,rfl,.iface _ _ _ h1⟩
 ·obtain⟨x',r',rfl,h1,h2⟩:=hv.of_cons
  split at hs
  ·cases h1
   obtain⟨a,i,n,rfl⟩:=yv _ h2 ⟨_,_,rfl⟩ hs;exact⟨_,a,.int _ _⟩
  ·simp at hs
 ·obtain⟨x',r',rfl,h1,h2⟩:=hv.of_cons
  obtain⟨a',b',rfl,h3,h4⟩:=h2.two rfl;cases h1;simp at hs;subst hs;rename_i c _ _ _;refine⟨_,rfl,?_⟩;split<;>assumption
 ·obtain⟨x',rfl,h1⟩:=hv.one rfl
  cases h1 with
  | iface t u u' hu=>
   cases hu with
   | agg a a' ha ra=>
    split at hs
    ·rename_i e
     simp at hs;subst hs;exact⟨.tuple #[.agg a',.bool true],by simp only[aJ];rw[if_pos e],.tuple _ _ rfl (LSh.arr.1 (LSh.cons (.agg _ _ ha ra) (LSh.cons (.bool true) LSh.nil))).2⟩
    ·simp at hs
 ·obtain⟨x',rfl,h1⟩:=hv.one rfl
  cases h1;simp at hs;subst hs;exact⟨_,rfl,.tuple _ _ rfl (LSh.arr.1 (LSh.cons (.agg _ _ rfl (LSh.arr.1 (eT (by simpa[uW]using hl))).2) (LSh.cons (.bool false) LSh.nil))).2⟩
 ·simp at hs
end
section
variable {k:Mv}
def qt:HOp->Bool
 | .alloc z | .mkSl z | .bSl z _ _=>z.all bO
 | _=>true
def ct:E->Bool
 | .var _=>true
 | .cst v=>fO v
 | .nil=>true
 | .cons a b=>ct a&&ct b
 | .node o a=>uW o&&ct a
 | .pick c a b=>ct c&&(ct a&&ct b)
def uX(pc:PC):Bool:=pc.all fun x=>ct x.1
def br:Stm->Bool
 | .skip=>true
 | .sets l chk=>l.all (fun x=>ct x.2)&&chk.all ct
 | .hv l chk pc _ o a=>l.all (fun x=>ct x.2)&&(chk.all ct&&(uX pc&&(qt o&&ct a)))
 | .dist a b=>ct a&&ct b
 | .seq a b=>br a&&br b
 | .cond c a b=>ct c&&(br a&&br b)
 | .block _ b=>br b
 | .loop b=>br b
 | .exit _=>true
 | .ret=>true
 | .scope b alts=>br b&&br alts
 | .alt _ s r=>br s&&br r
def EC:CK->Bool
 | .dfr mid _ rest=>br mid&&br rest
 | _=>true
def aI(cf:CF):Bool:=br cf.body&&(cf.res.all ct&&EC cf.kind)
theorem en{H:Heap}{i:Nat}{c:List Value}:H.get i=some c↔H[i]?=some (some c):=by
 grind[Heap.get]
structure MSh (k:Mv)(B:Heap)(H' B':Heap):Prop where
 sh:HSh k H' B'
 pre:∀i,i<k.n->B'[i]?=B[i]?
theorem HSh.newf{H B:Heap}(h:HSh k H B):B.length=k.f H.length:=by have:=h.len;have:=k.or H.length;omega
theorem MSh.refl{H B:Heap}(h:HSh k H B):MSh k B H B:=⟨h,fun _ _=>rfl⟩
theorem MSh.trans{B H1 B1 H2 B2:Heap}(h:MSh k B H1 B1)(g:MSh k B1 H2 B2):MSh k B H2 B2:=⟨g.sh,fun i hi=>(g.pre i hi).trans (h.pre i hi)⟩
theorem HSh.push{H B:Heap}(h:HSh k H B){c c':List Value}(hc:LSh k c c'):MSh k B (H++[some c]) (B++[some c']):=by
 have hl:=h.len;refine⟨⟨by grind,fun i d hd=>?_⟩,fun i hi=>?_⟩
 ·have hf:=k.or i
  rw[en]at hd;by_cases hi:i<H.length
  ·rw[ax₀ hi]at hd
   obtain⟨d',h1,h2⟩:=h.get i d (en.2 hd)
   grind[en]
  grind[en]
 grind
theorem HSh.setB{H B:Heap}(h:HSh k H B){i:Nat}(hw:k.w<=i){c c':Option (List Value)}(hc:∀d,c=some d->∃d',c'=some d'/\LSh k d d'):MSh k B (H.set i c) (B.set (k.f i) c'):=by
 have hl:=h.len;have hf:=k.or i;refine⟨⟨by simp_all,fun j d hd=>?_⟩,fun j hj=>?_⟩
 ·rw[en,List.getElem?_set]at hd
  split at hd
  ·grind[en]
  ·obtain⟨d',h1,h2⟩:=h.get j d (en.2 hd)
   grind[en,Mv.inj]
 grind
theorem HSh.put{H B H':Heap}(h:HSh k H B){lo lo' i off:Nat}(hlo:k.le lo' lo){vs vs':List Value}(hv:LSh k vs vs')(hp:H.put lo i off vs=some H'):∃B',B.put lo' (k.f i) off vs'=some B'/\MSh k B H' B':=by
 unfold Heap.put at hp ⊢;split at hp
 ·rename_i c hc
  obtain⟨c',h1,h2⟩:=h.get i c hc;rw[h1];split at hp
  ·rename_i hle
   simp only;have hf:=k.or i;rw[if_pos ⟨by grind[Mv.le],by rw[<-hv.1,<-h2.1];exact hle.2⟩]
   grind[Mv.le,setB,LSh.putCells]
  ·simp at hp
 ·simp at hp
theorem LSh.replicate{z:List Value}(hz:LSh k z z):∀n,LSh k (bU z n) (bU z n)
 | 0=>by grind[bU,nil]
 | n+1=>by
  have:=LSh.replicate hz n
  grind[bU,append]
theorem LSh.bytes(l:List UInt8):LSh k (l.map fun b=>Value.int .u8 b.toNat) (l.map fun b=>Value.int .u8 b.toNat):=by
 induction l with
 | nil=>exact LSh.nil
 | cons a l ih=>exact LSh.cons (.int _ _) ih
theorem ji{lo lo' sz n:Nat}(hlo:k.le lo' lo){s s':Value}(hs:Sh k s s'){new new':List Value}(hn:LSh k new new'){H B:Heap}(hH:HSh k H B){v:Value}{H':Heap}(h:bA lo sz s new n H=some (v,H')):∃v' B',bA lo' sz s' new' n B=some (v',B')/\Sh k v v'/\MSh k B H' B':=by
 unfold bA at h;cases hs with
 | nilSlice len cap=>
  simp only at h;split at h
  ·rename_i hle;simp at h;obtain⟨rfl,rfl⟩:=h
   exact⟨_,B,by unfold bA;simp only;rw[if_pos hle],.nilSlice _ _,.refl hH⟩
  ·rename_i hle
   split at h
   ·simp at h
   ·rename_i hm
    split at h
    ·rename_i h0;simp at h;obtain⟨rfl,rfl⟩:=h
     refine⟨_,_,by unfold bA;simp only;rw[if_neg hle,if_neg hm,if_pos h0],?_,hH.push hn⟩;rw[hH.newf];exact .slice _ _ _ _ _
    ·simp at h
 | slice i o len cap sp=>
  simp only at h;split at h
  ·rename_i hle
   split at h
   ·rename_i hsp
    simp only[aa₀]at h;obtain⟨X,hX,e⟩:=h;simp at e;obtain⟨rfl,rfl⟩:=e;obtain⟨B',h1,h2⟩:=hH.put hlo hn hX;exact⟨_,B',by unfold bA;simp only;rw[if_pos hle,if_pos hsp,h1];rfl,.slice _ _ _ _ _,h2⟩
   ·simp at h
  ·rename_i hle
   split at h
   ·simp at h
   ·rename_i hm
    cases sp with
    | none=>
     simp only[aa₀]at h;obtain⟨old,hX,e⟩:=h;simp at e;obtain⟨rfl,rfl⟩:=e;obtain⟨old',h1,h2⟩:=hH.cells hX;refine⟨_,_,by unfold bA;simp only;rw[if_neg hle,if_neg hm,h1];rfl,?_,hH.push (h2.append hn)⟩;rw[hH.newf];exact .slice _ _ _ _ _
    | some z=>
     simp only at h;split at h
     ·rename_i hz
      simp only[aa₀]at h;obtain⟨old,hX,e⟩:=h;simp at e;obtain⟨rfl,rfl⟩:=e;obtain⟨old',h1,h2⟩:=hH.cells hX;have hst:=hH.setB (i:=i) (by unfold Mv.le at hlo;omega) (c:=none) (c':=none) (fun d hd=>by simp at hd);have hf:=k.or i;refine⟨_,_,by unfold bA;simp only;rw[if_neg hle,if_neg hm,if_pos ⟨hz.1,by unfold Mv.le at hlo;omega⟩,h1];rfl,?_,hst.trans (hst.sh.push (h2.append hn))⟩;rw[hH.newf];exact .slice _ _ _ _ _
     ·simp at h
 | _=>simp at h
def CSh(k:Mv)(callA callB:dm):Prop:=
 ∀lo lo' f args args' H B v H',k.le lo' lo->LSh k args args'->HSh k H B->callA lo f args H=some (v,H') ->
  ∃v' B',callB lo' f args' B=some (v',B')/\Sh k v v'/\MSh k B H' B'
def RSh(k:Mv):Value ⊕ Value->Value ⊕ Value->Prop
 | .inl v,.inl u=>Sh k v u
 | .inr v,.inr u=>Sh k v u
 | _,_=>False
def CShR(k:Mv)(cA cB:CallR):Prop:=
 ∀lo lo' f args args' H B r H',k.le lo' lo->LSh k args args'->HSh k H B->cA lo f args H=some (r,H') ->
  ∃r' B',cB lo' f args' B=some (r',B')/\RSh k r r'/\MSh k B H' B'
theorem CShR.toRet{cA cB:CallR}(h:CShR k cA cB):CSh k cA.ret cB.ret:=fun lo lo' f args args' H B v H' h1 h2 h3 e=>by
 obtain⟨r',B',g1,g2,g3⟩:=h lo lo' f args args' H B _ H' h1 h2 h3 (mh e);cases r' with
 | inl u=>exact⟨u,B',qI g1,g2,g3⟩
 | inr u=>exact g2.elim
theorem CShR.toPan{cA cB:CallR}(h:CShR k cA cB):CSh k cA.pan cB.pan:=fun lo lo' f args args' H B v H' h1 h2 h3 e=>by
 obtain⟨r',B',g1,g2,g3⟩:=h lo lo' f args args' H B _ H' h1 h2 h3 (qp e);cases r' with
 | inr u=>exact⟨u,B',xS g1,g2,g3⟩
 | inl u=>exact g2.elim
set_option maxHeartbeats 2000000 in
theorem Fp{callA callB:dm}(hcall:CSh k callA callB){lo lo':Nat}(hlo:k.le lo' lo){o:HOp}(hp:qt o=true){vs vs':List Value}(hv:LSh k vs vs'){H B:Heap}(hH:HSh k H B){v:Value}{H':Heap}(hs:hsem callA lo o vs H=some (v,H')) :
  ∃v' B',hsem callB lo' o vs' B=some (v',B')/\Sh k v v'/\MSh k B H' B':=by
 unfold hsem at hs;split at hs
 ·obtain⟨x',r',rfl,h1,h2⟩:=hv.of_cons
  cases h1 with
  | func f a b a' b' ha hb ra rb=>
   rename_i raise _ _ _ _;have hl:k.le (if raise=true then B.length else lo') (if raise=true then H.length else lo):=by
    split
    ·exact⟨hH.len.2,Nat.le_of_eq hH.len.1⟩
    ·exact hlo
   exact hcall _ _ _ _ _ _ _ _ _ hl (((LSh.arr.2 ⟨ha,ra⟩).append h2).append (LSh.arr.2 ⟨hb,rb⟩)) hH hs
 ·obtain⟨x',r',rfl,h1,h2⟩:=hv.of_cons
  cases h1 with
  | func f a b a' b' ha hb ra rb=>
   exact hcall _ _ _ _ _ _ _ _ _ hlo (((LSh.arr.2 ⟨ha,ra⟩).append h2).append (LSh.arr.2 ⟨hb,rb⟩)) hH hs
 ·have:=hv.of_nil;subst this
  simp at hs;obtain⟨rfl,rfl⟩:=hs;refine⟨_,_,rfl,?_,hH.push (eT (by simpa[qt]using hp))⟩;rw[hH.newf];exact .ptr _ _ _
 ·obtain⟨x',rfl,h1⟩:=hv.one rfl
  simp only[ab₀,ad₀]at hs;obtain⟨rfl,rfl⟩:=hs;refine⟨_,_,rfl,?_,hH.push h1.cells⟩;rw[hH.newf];exact .ptr _ _ _
 ·obtain⟨x',y',rfl,h1,h2⟩:=hv.two rfl
  cases h1;cases h2;split at hs
  ·rename_i hc
   simp only[ab₀,ad₀]at hs;obtain⟨rfl,rfl⟩:=hs;refine⟨_,_,by simp only[hsem];rw[if_pos hc],?_,hH.push (LSh.replicate (eT (by simpa[qt]using hp)) _)⟩;rw[hH.newf];exact .slice _ _ _ _ _
  ·simp at hs
 ·simp only[aa₀]at hs
  obtain⟨c,hc,e⟩:=hs;simp only[ad₀]at e;obtain⟨rfl,rfl⟩:=e;obtain⟨c',h1,h2⟩:=nn _ _ _ _ _ _ (LSh.replicate (eT (by simpa[qt]using hp)) _) hv hc;refine⟨_,_,by simp only[hsem,h1];rfl,?_,hH.push h2⟩;rw[hH.newf];exact .slice _ _ _ _ _
 ·obtain⟨x',y',rfl,h1,h2⟩:=hv.two rfl
  cases h1;split at hs
  ·rename_i hc
   simp only[aa₀]at hs;obtain⟨X,hX,e⟩:=hs;simp only[ad₀]at e;obtain⟨rfl,rfl⟩:=e;obtain⟨B',h3,h4⟩:=hH.put hlo h2.cells hX;have hsz:=h2.cells.1;simp only[Array.length_toList]at hsz;exact⟨_,B',by simp only[hsem];rw[if_pos ⟨byO,by rw[h2.cells.oneCells];exact hc.2⟩,h3];rfl,gF (by rfl),h4⟩
  ·simp at hs
 ·obtain⟨x',y',rfl,h1,h2⟩:=hv.two rfl
  cases h2;split at hs
  ·rename_i hc
   obtain⟨v',B',h3,h4⟩:=ji hlo h1 LSh.nil hH hs;exact⟨v',B',by simp only[hsem];rw[if_pos hc,h3],h4⟩
  ·simp at hs
 ·obtain⟨x',y',rfl,h1,h2⟩:=hv.two rfl
  cases h2;simp only[ae₀]at hs;obtain⟨new,hn,hs⟩:=hs;obtain⟨new',h3,h4⟩:=hH.cells hn;split at hs
  ·rename_i hc
   obtain⟨v',B',h5,h6⟩:=ji hlo h1 h4 hH hs;exact⟨v',B',by simp only[hsem,h3,ao₀];rw[if_pos (by rw[h4.oneCells];exact hc),h5],h6⟩
  ·simp at hs
 ·obtain⟨x',y',rfl,h1,h2⟩:=hv.two rfl
  cases h2;obtain⟨v',B',h5,h6⟩:=ji hlo h1 (LSh.bytes _) hH hs;exact⟨v',B',by simp only[hsem];exact h5,h6⟩
 ·obtain⟨x',rfl,h1⟩:=hv.one rfl
  cases h1;simp only[ab₀,ad₀]at hs;obtain⟨rfl,rfl⟩:=hs;refine⟨_,_,rfl,?_,hH.push (LSh.bytes _)⟩;rw[hH.newf];exact .slice _ _ _ _ _
 ·unfold jq at hs
  split at hs<;>try (simp at hs;done)
  obtain⟨x',rfl,h1⟩:=hv.one rfl;cases h1;rename_i i o n c;split at hs
  ·rename_i d hd
   split at hs
   ·rename_i hc
    simp only[ab₀,ad₀]at hs;obtain⟨rfl,rfl⟩:=hs;obtain⟨d',h2,_⟩:=hH.get i d hd;have hf:=k.or i;exact⟨_,B,by simp only[hsem,jq,h2];rw[if_pos (by unfold Mv.le at hlo;omega)],.slice _ _ _ _ _,.refl hH⟩
   ·simp at hs
  ·simp at hs
 ·obtain⟨x',y',rfl,h1,h2⟩:=hv.two rfl
  cases h1;split at hs
  ·rename_i hc
   simp only[ab₀,ad₀]at hs;obtain⟨rfl,rfl⟩:=hs;cases h2<;>exact⟨_,B,by simp only[hsem];rw[if_pos hc],.int _ _,.refl hH⟩
  ·simp at hs
 ·obtain⟨x',y',rfl,h1,h2⟩:=hv.two rfl
  cases h1;cases h2;split at hs
  ·rename_i hc
   simp only[ab₀,ad₀]at hs;obtain⟨rfl,rfl⟩:=hs;exact⟨_,B,by simp only[hsem];rw[if_pos hc],.int _ _,.refl hH⟩
  ·simp at hs
 ·obtain⟨x',y',rfl,h1,h2⟩:=hv.two rfl
  cases h1;cases h2;simp only[ae₀]at hs;obtain⟨new,hn,hs⟩:=hs;obtain⟨new',h3,h4⟩:=hH.cells hn;split at hs
  ·rename_i hc
   simp only[aa₀]at hs;obtain⟨X,hX,e⟩:=hs;simp only[ad₀]at e;obtain⟨rfl,rfl⟩:=e;obtain⟨B',h5,h6⟩:=hH.put hlo h4 hX;exact⟨_,B',by simp only[hsem,h3,ao₀];rw[if_pos (by rw[h4.oneCells];exact hc),h5];rfl,.int _ _,h6⟩
  ·simp at hs
 ·simp at hs
theorem BJ{cA cB:CallR}(hcall:CShR k cA cB){lo lo':Nat}(hlo:k.le lo' lo){o:HOp}{vs vs':List Value}(hv:LSh k vs vs'){H B:Heap}(hH:HSh k H B){v:Value}{H':Heap}(hs:cm cA lo o vs H=some (v,H')) :
  ∃v' B',cm cB lo' o vs' B=some (v',B')/\Sh k v v'/\MSh k B H' B':=by
 unfold cm at hs;split at hs
 ·obtain⟨x',r',rfl,h1,h2⟩:=hv.of_cons
  cases h1 with
  | func f a b a' b' ha hb ra rb=>
   exact hcall.toPan _ _ _ _ _ _ _ _ _ hlo (((LSh.arr.2 ⟨ha,ra⟩).append h2).append (LSh.arr.2 ⟨hb,rb⟩)) hH hs
 ·obtain⟨x',rfl,h1⟩:=hv.one rfl
  cases h1 with
  | iface t u u' hu=>
   simp only[ab₀,ad₀]at hs;obtain⟨rfl,rfl⟩:=hs;exact⟨_,B,rfl,.iface _ _ _ hu,.refl hH⟩
 ·simp at hs
theorem mI{H B:Heap}(hH:HSh k H B){S S':List Value}(hS:LSh k S S'):∀(e:E) (vs:List Value),ct e=true->ev S H e=some vs->∃vs',ev S' B e=some vs'/\LSh k vs vs'
 | .var j,vs,_,h=>by
  simp only[ev]at h ⊢;split at h
  ·rename_i v hv
   simp at h;subst h;have hlt:j<S'.length:=by rw[<-hS.1];exact(List.getElem?_eq_some_iff.1 hv).1
   have h1:S'[j]?=some S'[j]:=bb₀ hlt;rw[h1];exact⟨_,rfl,LSh.cons (hS.2 _ _ _ hv h1) LSh.nil⟩
  ·simp at h
 | .cst v,vs,hp,h=>by
  simp only[ev,ab₀]at h ⊢;subst h;exact⟨_,rfl,LSh.cons (gF hp) LSh.nil⟩
 | .nil,vs,_,h=>by
  simp only[ev,ab₀]at h ⊢;subst h;exact⟨_,rfl,LSh.nil⟩
 | .cons a b,vs,hp,h=>by
  simp only[ct,ac₀]at hp;simp only[ev]at h ⊢;split at h
  ·rename_i x hx
   split at h
   ·rename_i y hy
    simp only[ab₀]at h;subst h;obtain⟨x',h1,h2⟩:=mI hH hS a x hp.1 hx;obtain⟨y',h3,h4⟩:=mI hH hS b y hp.2 hy;rw[h1,h3];exact⟨_,rfl,h2.append h4⟩
   ·simp at h
  ·simp at h
 | .node o a,vs,hp,h=>by
  simp only[ct,ac₀]at hp;simp only[ev]at h ⊢;split at h
  ·rename_i x hx
   split at h
   ·rename_i y hy
    simp only[ab₀]at h;subst h;obtain⟨x',h1,h2⟩:=mI hH hS a x hp.2 hx;obtain⟨y',h3,h4⟩:=GW hp.1 h2 hH hy;rw[h1];simp only[h3];exact⟨_,rfl,LSh.cons h4 LSh.nil⟩
   ·simp at h
  ·simp at h
 | .pick c a b,vs,hp,h=>by
  simp only[ct,ac₀]at hp;simp only[ev]at h ⊢;split at h
  ·rename_i hx
   obtain⟨x',h1,h2⟩:=mI hH hS c _ hp.1 hx;obtain⟨y,rfl,h3⟩:=h2.one rfl;cases h3;rw[h1];exact mI hH hS a vs hp.2.1 h
  ·rename_i hx
   obtain⟨x',h1,h2⟩:=mI hH hS c _ hp.1 hx;obtain⟨y,rfl,h3⟩:=h2.one rfl;cases h3;rw[h1];exact mI hH hS b vs hp.2.2 h
  ·simp at h
theorem mX{H B:Heap}(hH:HSh k H B){S S':List Value}(hS:LSh k S S'){e:E}{v:Value}(hp:ct e=true)(h:ev1 S H e=some v):∃v',ev1 S' B e=some v'/\Sh k v v':=by
 unfold ev1 at h ⊢;split at h
 ·rename_i x hx
  simp only[ab₀]at h;subst h;obtain⟨x',h1,h2⟩:=mI hH hS e _ hp hx;obtain⟨y,rfl,h3⟩:=h2.one rfl;rw[h1];exact⟨_,rfl,h3⟩
 ·simp at h
theorem sM{H B:Heap}(hH:HSh k H B){S S':List Value}(hS:LSh k S S'):∀{es:List E} {vs:List Value},es.all ct=true->evList S H es=some vs->∃vs',evList S' B es=some vs'/\LSh k vs vs'
 | [],vs,_,h=>by simp only[evList,ab₀]at h ⊢;subst h;exact⟨_,rfl,LSh.nil⟩
 | e::r,vs,hp,h=>by
  simp only[List.all_cons,ac₀]at hp;simp only[evList]at h ⊢;split at h
  ·rename_i v hv
   split at h
   ·rename_i l hl
    simp only[ab₀]at h;subst h;obtain⟨v',h1,h2⟩:=mX hH hS hp.1 hv;obtain⟨l',h3,h4⟩:=sM hH hS hp.2 hl;rw[h1,h3];exact⟨_,rfl,LSh.cons h2 h4⟩
   ·simp at h
  ·simp at h
theorem qL{H B:Heap}(hH:HSh k H B){S S':List Value}(hS:LSh k S S'):∀{es:List E},es.all ct=true->evChk S H es=true->evChk S' B es=true
 | [],_,_=>rfl
 | e::r,hp,h=>by
  simp only[List.all_cons,ac₀]at hp;simp only[evChk,ac₀,Option.isSome_iff_exists]at h ⊢;obtain⟨⟨x,hx⟩,h2⟩:=h;obtain⟨x',h3,_⟩:=mI hH hS e _ hp.1 hx;exact⟨⟨x',h3⟩,qL hH hS hp.2 h2⟩
theorem nv{H B:Heap}(hH:HSh k H B){S S':List Value}(hS:LSh k S S'):∀{l:List (Nat×E)} {vs:List (Nat×Value)},l.all (fun x=>ct x.2)=true->evSets S H l=some vs ->
  ∃vs',evSets S' B l=some vs'/\∀{T T':List Value},LSh k T T'->LSh k (setAll T vs) (setAll T' vs')
 | [],vs,_,h=>by simp only[evSets,ab₀]at h ⊢;subst h;exact⟨_,rfl,fun h=>h⟩
 | (j,e)::r,vs,hp,h=>by
  simp only[List.all_cons,ac₀]at hp;simp only[evSets]at h ⊢;split at h
  ·rename_i v hv
   split at h
   ·rename_i l hl
    simp only[ab₀]at h;subst h;obtain⟨v',h1,h2⟩:=mX hH hS hp.1 hv;obtain⟨l',h3,h4⟩:=nv hH hS hp.2 hl;rw[h1,h3];exact⟨_,rfl,fun hT=>h4 (hT.set h2 j)⟩
   ·simp at h
  ·simp at h
theorem qW{H B:Heap}(hH:HSh k H B){S S':List Value}(hS:LSh k S S'):∀{pc:PC} {b:Bool},uX pc=true->holds S H pc=some b->holds S' B pc=some b
 | [],b,_,h=>h
 | (c,want)::r,b,hp,h=>by
  simp only[uX,List.all_cons,ac₀]at hp;simp only[holds]at h ⊢;split at h
  ·rename_i t ht
   obtain⟨v',h1,h2⟩:=mX hH hS hp.1 ht;cases h2;rw[h1];simp only;split at h
   ·rename_i e;rw[if_pos e];exact qW hH hS hp.2 h
   ·rename_i e;rw[if_neg e];exact h
  ·simp at h
theorem wx{x x' y y':Value}(hx:Sh k x x')(hy:Sh k y y')(h:ag x=none\/ag x≠ag y):ag x'=none\/ag x'≠ag y':=by
 have hb:∀{v v':Value},Sh k v v'->ag v'=(ag v).map k.f:=by
  intro v v' h;cases h<;>rfl
 rw[hb hx,hb hy];cases e:ag x with
 | none=>exact .inl rfl
 | some a=>
  rw[e]at h;refine .inr fun he=>?_;cases e2:ag y with
  | none=>rw[e2]at he;simp at he
  | some b=>
   rw[e2]at he h;simp at he;rw[k.inj he]at h;simp at h
def OSh(k:Mv)(B:Heap)(o o':Ex×List Value×Heap):Prop:=o'.1=o.1/\LSh k o.2.1 o'.2.1/\MSh k B o.2.2 o'.2.2
theorem zI{f g:List Value->Heap->Out}(hfg:∀S S' H B o,LSh k S S'->HSh k H B->f S H=some o->∃o',g S' B=some o'/\OSh k B o o'):∀(n:Nat) (S S':List Value) (H B:Heap) o,LSh k S S'->HSh k H B->iter f n S H=some o->∃o',iter g n S' B=some o'/\OSh k B o o'
 | 0,S,S',H,B,o,_,_,h=>by simp[iter]at h
 | n+1,S,S',H,B,o,hS,hH,h=>by
  simp only[iter]at h ⊢;split at h
  ·rename_i S1 H1 h1
   obtain⟨⟨x,S2,B2⟩,h2,h3,h4,h5⟩:=hfg S S' H B _ hS hH h1;simp only at h3 h4 h5;subst h3;rw[h2];obtain⟨o',h6,h7,h8,h9⟩:=zI hfg n S1 S2 H1 B2 o h4 h5.sh h;exact⟨o',h6,h7,h8,h5.trans h9⟩
  ·rename_i hne
   obtain⟨o',h2,h3⟩:=hfg S S' H B _ hS hH h;refine⟨o',?_,h3⟩;rw[h2];obtain⟨x,S2,B2⟩:=o';cases x with
   | normal=>
    obtain⟨y,S3,H3⟩:=o;have:=h3.1;simp only at this;subst this;exact(hne S3 H3 h).elim
   | exit j=>rfl
   | ret=>rfl
theorem DL{f g:List Value->Heap->Out}(hfg:∀(S S':List Value) (H B:Heap) o,LSh k S S'->HSh k H B->f S H=some o->∃o',g S' B=some o'/\o'.1=o.1/\LSh k o.2.1 o'.2.1/\MSh k B o.2.2 o'.2.2) :
  ∀(n:Nat) (B:Heap) (x:Ex×List Value×Heap) (y:Ex×List Value×Heap) o,y.1=x.1->LSh k x.2.1 y.2.1->MSh k B x.2.2 y.2.2->hop f n (some x)=some o->∃o',hop g n (some y)=some o'/\o'.1=o.1/\LSh k o.2.1 o'.2.1/\MSh k B o.2.2 o'.2.2
 | 0,B,(x,S1,H1),(y,S2,B2),o,e,hS,hH,h=>by
  simp only at e hS hH;subst e;cases y with
  | exit j=>
   simp only[hop]at h ⊢;split at h
   ·simp at h
   ·rename_i hj
    rw[if_neg hj];cases h;exact⟨_,rfl,rfl,hS,hH⟩
  | normal=>simp only[hop]at h ⊢;cases h;exact⟨_,rfl,rfl,hS,hH⟩
  | ret=>simp only[hop]at h ⊢;cases h;exact⟨_,rfl,rfl,hS,hH⟩
 | n+1,B,(x,S1,H1),(y,S2,B2),o,e,hS,hH,h=>by
  simp only at e hS hH;subst e;cases y with
  | exit j=>
   simp only[hop]at h ⊢;split at h
   ·rename_i hj
    rw[if_pos hj];cases hf:f (.int .i64 ((j-bC:Nat):Int)::S1) H1 with
    | none=>rw[hf]at h;cases n<;>simp[hop]at h
    | some o1=>
     rw[hf]at h;obtain⟨o2,h1,h2,h3,h4⟩:=hfg (.int .i64 ((j-bC:Nat):Int)::S1) (.int .i64 ((j-bC:Nat):Int)::S2) H1 B2 o1 (LSh.cons (gF rfl) hS) hH.sh hf;rw[h1];exact DL hfg n B o1 o2 o h2 h3 (hH.trans h4) h
   ·rename_i hj
    rw[if_neg hj];cases h;exact⟨_,rfl,rfl,hS,hH⟩
  | normal=>simp only[hop]at h ⊢;cases h;exact⟨_,rfl,rfl,hS,hH⟩
  | ret=>simp only[hop]at h ⊢;cases h;exact⟨_,rfl,rfl,hS,hH⟩
theorem LSh.cons'{x y:Value}{l l':List Value}(r:LSh k l l')(h:Sh k x y):LSh k (x::l) (y::l'):=LSh.cons h r
theorem cT{callA callB:CallR}(hcall:CShR k callA callB){lo lo':Nat}(hlo:k.le lo' lo)(n:Nat):∀(s:Stm),br s=true->∀(S S':List Value) (H B:Heap) o,LSh k S S'->HSh k H B->exec callA lo n s S H=some o->∃o',exec callB lo' n s S' B=some o'/\OSh k B o o'
 | .skip,_,S,S',H,B,o,hS,hH,h=>by simp only[exec,ab₀]at h ⊢;subst h;exact⟨_,rfl,rfl,hS,.refl hH⟩
 | .exit i,_,S,S',H,B,o,hS,hH,h=>by simp only[exec,ab₀]at h ⊢;subst h;exact⟨_,rfl,rfl,hS,.refl hH⟩
 | .ret,_,S,S',H,B,o,hS,hH,h=>by simp only[exec,ab₀]at h ⊢;subst h;exact⟨_,rfl,rfl,hS,.refl hH⟩
 | .alt l s r,hp,S,S',H,B,o,hS,hH,h=>by
  simp only[br,ac₀]at hp;simp only[exec]at h;split at h
  ·rename_i t S0
   obtain⟨y,S2,rfl,hy,hS2⟩:=hS.of_cons;obtain rfl:y=.int .i64 t:=by cases hy;rfl
   simp only[exec];split at h
   ·rename_i ht
    rw[if_pos ht];exact cT hcall hlo n s hp.1 _ _ H B o hS2 hH h
   ·rename_i ht
    rw[if_neg ht];exact cT hcall hlo n r hp.2 _ _ H B o hS hH h
  ·simp at h
 | .scope b alts,hp,S,S',H,B,o,hS,hH,h=>by
  simp only[br,ac₀]at hp;simp only[exec]at h ⊢;cases hb:exec callA lo n b S H with
  | none=>rw[hb]at h;cases n<;>simp[hop]at h
  | some o1=>
   rw[hb]at h;obtain⟨o2,h1,h2,h3,h4⟩:=cT hcall hlo n b hp.1 S S' H B o1 hS hH hb;rw[h1];exact DL (fun S S' H B o=>cT hcall hlo n alts hp.2 S S' H B o) n B o1 o2 o h2 h3 h4 h
 | .sets l chk,hp,S,S',H,B,o,hS,hH,h=>by
  simp only[br,ac₀]at hp;simp only[exec]at h ⊢;split at h
  ·rename_i vs hvs
   split at h
   ·rename_i hc
    simp only[ab₀]at h;subst h;obtain⟨vs',h1,h2⟩:=nv hH hS hp.1 hvs;rw[h1];simp only;rw[if_pos (qL hH hS hp.2 hc)];exact⟨_,rfl,rfl,h2 hS,.refl hH⟩
   ·simp at h
  ·simp at h
 | .hv l chk pc dst op a,hp,S,S',H,B,o,hS,hH,h=>by
  simp only[br,ac₀]at hp;simp only[exec]at h ⊢;split at h
  ·rename_i vs hvs
   split at h
   ·rename_i hc
    obtain⟨vs',h1,h2⟩:=nv hH hS hp.1 hvs;rw[h1];simp only;rw[if_pos (qL hH hS hp.2.1 hc)];split at h
    ·rename_i hh
     rw[qW hH hS hp.2.2.1 hh];simp only;split at h
     ·rename_i xs hxs
      obtain⟨xs',h3,h4⟩:=mI hH hS a xs hp.2.2.2.2 hxs;rw[h3];simp only;split at h
      ·rename_i v H' hv
       obtain⟨v',B',h5,h6,h7⟩:=Fp hcall.toRet hlo hp.2.2.2.1 h4 hH hv;rw[h5];simp only[ab₀]at h;subst h;refine⟨_,rfl,rfl,?_,h7⟩;cases dst with
       | none=>exact h2 hS
       | some d=>exact(h2 hS).set h6 d
      ·split at h
       ·rename_i v H' hv
        obtain⟨v',B',h5,h6,h7⟩:=BJ hcall hlo h4 hH hv;rw[yA h5];simp only;rw[h5];simp only[ab₀]at h;subst h;exact⟨_,rfl,rfl,(h2 hS).cons' h6,h7⟩
       ·simp at h
     ·simp at h
    ·rename_i hh
     rw[qW hH hS hp.2.2.1 hh];simp only[ab₀]at h;subst h;refine⟨_,rfl,rfl,?_,.refl hH⟩;cases dst with
     | none=>exact h2 hS
     | some d=>exact(h2 hS).set (gF (by rfl)) d
    ·simp at h
   ·simp at h
  ·simp at h
 | .dist a b,hp,S,S',H,B,o,hS,hH,h=>by
  simp only[br,ac₀]at hp;simp only[exec]at h ⊢;split at h
  ·rename_i x y hx hy
   split at h
   ·rename_i hd
    simp only[ab₀]at h;subst h;obtain⟨x',h1,h2⟩:=mX hH hS hp.1 hx;obtain⟨y',h3,h4⟩:=mX hH hS hp.2 hy;rw[h1,h3];simp only;rw[if_pos (wx h2 h4 hd)];exact⟨_,rfl,rfl,hS,.refl hH⟩
   ·simp at h
  ·simp at h
 | .seq a b,hp,S,S',H,B,o,hS,hH,h=>by
  simp only[br,ac₀]at hp;simp only[exec]at h ⊢;split at h
  ·rename_i S1 H1 h1
   obtain⟨⟨x,S2,B2⟩,h2,h3,h4,h5⟩:=cT hcall hlo n a hp.1 S S' H B _ hS hH h1;simp only at h3 h4 h5;subst h3;rw[h2];obtain⟨o',h6,h7,h8,h9⟩:=cT hcall hlo n b hp.2 S1 S2 H1 B2 o h4 h5.sh h;exact⟨o',h6,h7,h8,h5.trans h9⟩
  ·rename_i hne
   obtain⟨o',h2,h3⟩:=cT hcall hlo n a hp.1 S S' H B _ hS hH h;refine⟨o',?_,h3⟩;rw[h2];obtain⟨x,S2,B2⟩:=o';cases x with
   | normal=>
    obtain⟨y,S3,H3⟩:=o;have:=h3.1;simp only at this;subst this;exact(hne S3 H3 h).elim
   | exit j=>rfl
   | ret=>rfl
 | .cond c a b,hp,S,S',H,B,o,hS,hH,h=>by
  simp only[br,ac₀]at hp;simp only[exec]at h ⊢;split at h
  ·rename_i hx
   obtain⟨x',h1,h2⟩:=mX hH hS hp.1 hx;cases h2;rw[h1];exact cT hcall hlo n a hp.2.1 S S' H B _ hS hH h
  ·rename_i hx
   obtain⟨x',h1,h2⟩:=mX hH hS hp.1 hx;cases h2;rw[h1];exact cT hcall hlo n b hp.2.2 S S' H B _ hS hH h
  ·simp at h
 | .block i b,hp,S,S',H,B,o,hS,hH,h=>by
  simp only[br]at hp;simp only[exec]at h ⊢;split at h
  ·rename_i j S1 H1 h1
   obtain⟨⟨x,S2,B2⟩,h2,h3,h4,h5⟩:=cT hcall hlo n b hp S S' H B _ hS hH h1;simp only at h3 h4 h5;subst h3;rw[h2];simp only;split at h
   ·rename_i e;rw[if_pos e];simp only[ab₀]at h;subst h;exact⟨_,rfl,rfl,h4,h5⟩
   ·rename_i e;rw[if_neg e];simp only[ab₀]at h;subst h;exact⟨_,rfl,rfl,h4,h5⟩
  ·rename_i hne
   obtain⟨o',h2,h3⟩:=cT hcall hlo n b hp S S' H B _ hS hH h;refine⟨o',?_,h3⟩;rw[h2];obtain⟨x,S2,B2⟩:=o';cases x with
   | exit j=>
    obtain⟨y,S3,H3⟩:=o;have:=h3.1;simp only at this;subst this;exact(hne j S3 H3 h).elim
   | normal=>rfl
   | ret=>rfl
 | .loop b,hp,S,S',H,B,o,hS,hH,h=>by
  simp only[br]at hp;simp only[exec]at h ⊢;exact zI (fun S S' H B o hS hH h=>cT hcall hlo n b hp S S' H B o hS hH h) n S S' H B o hS hH h
theorem wX{vs vs':List Value}(h:LSh k vs vs'):Sh k (aM vs) (aM vs'):=by
 have tup:∀{a b:List Value},LSh k a b->Sh k (.tuple a.toArray) (.tuple b.toArray):=fun {a b} h=>.tuple _ _ (by simp[h.1]) (by simpa using h.2);unfold aM;split
 ·obtain⟨y,rfl,h1⟩:=h.one rfl;exact h1
 ·rename_i hne
  split
  ·rename_i v
   have:=h.1
   match vs,this with
   | [x],_=>exact(hne x rfl).elim
  ·exact tup h
theorem je(n:Nat):LSh k (List.replicate n undef) (List.replicate n undef):=by
 induction n with
 | zero=>exact LSh.nil
 | succ n ih=>rw[List.replicate_succ];exact LSh.cons (gF (by rfl)) ih
theorem ue{cp:FuncId->Option CF}(hp:∀f cf,cp f=some cf->aI cf=true){cA cB:CallR}(hc:CShR k cA cB){lo lo' n:Nat}(hlo:k.le lo' lo){g:FuncId}{args args':List Value}(ha:LSh k args args'){rv rv':Value}(hr:Sh k rv rv'){H B:Heap}(hH:HSh k H B){H':Heap}
  (h:mF cp cA lo n g args rv H=some H'):∃B',mF cp cB lo' n g args' rv' B=some B'/\MSh k B H' B':=by
 unfold mF at h ⊢;split at h<;>try (simp at h;done)
 rename_i cg hcg;have hpl:=hp g cg hcg;simp only[aI,ac₀]at hpl;split at h<;>try (simp at h;done)
 rename_i j hk;split at h<;>try (simp at h;done)
 rename_i hl;simp only[hk,if_pos (show args'.length=cg.np by rw[<-ha.1];exact hl)];split at h<;>try (simp at h;done)
 all_goals
  rename_i S1 H1 h1;simp at h;subst h;obtain⟨⟨x,S2,B2⟩,h2,h3,h4,h5⟩:=cT hc hlo n cg.body hpl.1 _ _ _ _ _ ((ha.append (je _)).set hr j) hH h1;simp only at h3 h4 h5;subst h3;rw[h2];exact⟨B2,rfl,h5⟩
theorem nZ{res:List E}(hp:res.all ct=true){S S':List Value}(hS:LSh k S S'){H B:Heap}(hH:HSh k H B){r:Value ⊕ Value}{H':Heap}(h:rB res S H=some (r,H')):H'=H/\∃r',rB res S' B=some (r',B)/\RSh k r r':=by
 unfold rB at h ⊢;split at h<;>try (simp at h;done)
 rename_i vs hvs;simp only[ab₀,ad₀]at h;obtain⟨rfl,rfl⟩:=h;obtain⟨vs',h1,h2⟩:=sM hH hS hp hvs;rw[h1];exact⟨rfl,_,rfl,(wX h2:RSh k (.inl _) (.inl _))⟩
theorem HM{cp:FuncId->Option CF}(hp:∀f cf,cp f=some cf->aI cf=true){cA cB:CallR}(hc:CShR k cA cB){lo lo' n j:Nat}(hlo:k.le lo' lo){res:List E}(hres:res.all ct=true){body mid rest:Stm}(hb:br body=true)(hm:br mid=true)(hr:br rest=true)
  {S S':List Value} (hS:LSh k S S') {H B:Heap} (hH:HSh k H B) {r:Value ⊕ Value} {H':Heap} (h:kA cp cA lo n res body mid j rest S H=some (r,H')):∃r' B',kA cp cB lo' n res body mid j rest S' B=some (r',B')/\RSh k r r'/\MSh k B H' B':=by
 unfold kA at h;split at h
 ·rename_i S1 H1 h1
  obtain⟨⟨x,S2,B2⟩,h2,h3,h4,h5⟩:=cT hc hlo n body hb _ _ _ _ _ hS hH h1;simp only at h3 h4 h5;subst h3;obtain⟨rfl,r',h6,h7⟩:=nZ hres h4 h5.sh h;exact⟨r',B2,by simp only[kA,h2,h6],h7,h5⟩
 ·rename_i i p S1 H1 h1
  obtain⟨⟨x,S2,B2⟩,h2,h3,h4,h5⟩:=cT hc hlo n body hb _ _ _ _ _ hS hH h1;simp only at h3 h4 h5;subst h3;obtain⟨q',S3,rfl,h6,h7⟩:=h4.of_cons;split at h<;>try (simp at h;done)
  rename_i hi;simp only[ab₀,ad₀]at h;obtain⟨rfl,rfl⟩:=h;exact⟨.inr q',B2,by simp only[kA,h2,if_pos hi],h6,h5⟩
 ·rename_i S1 H1 h1
  obtain⟨⟨x,S2,B2⟩,h2,h3,h4,h5⟩:=cT hc hlo n body hb _ _ _ _ _ hS hH h1;simp only at h3 h4 h5;subst h3;split at h<;>try (simp at h;done)
  rename_i S3 H3 g1;obtain⟨⟨x,S4,B4⟩,g2,g3,g4,g5⟩:=cT hc hlo n mid hm _ _ _ _ _ h4 h5.sh g1;simp only at g3 g4 g5;subst g3;have g5:=h5.trans g5;split at h<;>try (simp at h;done)
  rename_i g first cap hg
  have hjl:j<S4.length:=by rw[<-g4.1];exact(List.getElem?_eq_some_iff.1 hg).1
  have hg2:S4[j]?=some S4[j]:=bb₀ hjl;have hsh:=g4.2 j _ _ hg hg2;generalize S4[j]=fv at hg2 hsh;cases hsh with
  | func _ _ _ a' b' ha hb ra rb=>
  have hargs:LSh k (first.toList++cap.toList) (a'.toList++b'.toList):=(LSh.arr.2 ⟨ha,ra⟩).append (LSh.arr.2 ⟨hb,rb⟩);split at h
  ·rename_i S5 H5 q1
   obtain⟨⟨x,S6,B6⟩,q2,q3,q4,q5⟩:=cT hc hlo n rest hr _ _ _ _ _ g4 g5.sh q1;simp only at q3 q4 q5;subst q3;have q5:=g5.trans q5;split at h<;>try (simp at h;done)
   rename_i H7 hrr;obtain⟨B7,u1,u2⟩:=ue hp hc hlo hargs (.nilIface) q5.sh hrr;have u2:=q5.trans u2;obtain⟨rfl,r',u3,u4⟩:=nZ hres q4 u2.sh h;exact⟨r',B7,by simp only[kA,h2,g2,hg2,q2,u1,u3],u4,u2⟩
  ·rename_i S5 H5 q1
   obtain⟨⟨x,S6,B6⟩,q2,q3,q4,q5⟩:=cT hc hlo n rest hr _ _ _ _ _ g4 g5.sh q1;simp only at q3 q4 q5;subst q3;have q5:=g5.trans q5;split at h<;>try (simp at h;done)
   rename_i H7 hrr;obtain⟨B7,u1,u2⟩:=ue hp hc hlo hargs (.nilIface) q5.sh hrr;have u2:=q5.trans u2;obtain⟨rfl,r',u3,u4⟩:=nZ hres q4 u2.sh h;exact⟨r',B7,by simp only[kA,h2,g2,hg2,q2,u1,u3],u4,u2⟩
  ·rename_i i p S5 H5 q1
   obtain⟨⟨x,S6,B6⟩,q2,q3,q4,q5⟩:=cT hc hlo n rest hr _ _ _ _ _ g4 g5.sh q1;simp only at q3 q4 q5;subst q3;have q5:=g5.trans q5;obtain⟨q',S7,rfl,v1,v2⟩:=q4.of_cons;split at h<;>try (simp at h;done)
   rename_i hi;split at h<;>try (simp at h;done)
   rename_i H7 hrr;obtain⟨B7,u1,u2⟩:=ue hp hc hlo hargs v1 q5.sh hrr;have u2:=q5.trans u2;obtain⟨rfl,r',u3,u4⟩:=nZ hres v2 u2.sh h;exact⟨r',B7,by simp only[kA,h2,g2,hg2,q2,if_pos hi,u1,u3],u4,u2⟩
  ·simp at h
 ·simp at h
theorem oN{cp:FuncId->Option CF}(hp:∀f cf,cp f=some cf->aI cf=true):∀n,CShR k (run cp n) (run cp n)
 | 0=>fun lo lo' f args args' H B v H' _ _ _ h=>by simp[run]at h
 | n+1=>fun lo lo' f args args' H B v H' hlo ha hH h=>by
  simp only[run]at h ⊢;split at h<;>try (simp at h;done)
  rename_i cf hcf;have hpl:=hp f cf hcf;simp only[aI,ac₀]at hpl;split at h<;>try (simp at h;done)
  rename_i hl;rw[if_pos (by rw[<-ha.1];exact hl)];split at h
  ·rename_i hk
   have fin:∀{S H1 S' B1},LSh k S S'->HSh k H1 B1->(match evList S H1 cf.res with|some vs=>some (Sum.inl (aM vs),H1)|none=>none)=some (v,H')->H1=H'/\∃v',(match evList S' B1 cf.res with|some vs=>some (Sum.inl (aM vs),B1)|none=>none)=some (v',B1)/\RSh k v v':=by
    intro S H1 S' B1 hS hH1 he;obtain⟨h1,h2⟩:=nZ hpl.2.1 hS hH1 he;exact⟨h1.symm,h2⟩
   split at h
   ·rename_i S1 H1 h1
    obtain⟨⟨x,S2,B2⟩,h2,h3,h4,h5⟩:=cT (oN hp n) hlo n cf.body hpl.1 _ _ _ _ _ (ha.append (je _)) hH h1;simp only at h3 h4 h5;subst h3;rw[h2];obtain⟨rfl,v',h6,h7⟩:=fin h4 h5.sh h;exact⟨v',B2,h6,h7,h5⟩
   ·rename_i S1 H1 h1
    obtain⟨⟨x,S2,B2⟩,h2,h3,h4,h5⟩:=cT (oN hp n) hlo n cf.body hpl.1 _ _ _ _ _ (ha.append (je _)) hH h1;simp only at h3 h4 h5;subst h3;rw[h2];obtain⟨rfl,v',h6,h7⟩:=fin h4 h5.sh h;exact⟨v',B2,h6,h7,h5⟩
   ·rename_i j q S1 H1 h1
    obtain⟨⟨x,S2,B2⟩,h2,h3,h4,h5⟩:=cT (oN hp n) hlo n cf.body hpl.1 _ _ _ _ _ (ha.append (je _)) hH h1;simp only at h3 h4 h5;subst h3;obtain⟨q',S3,rfl,h6,h7⟩:=h4.of_cons;rw[h2];simp only;split at h
    ·rename_i hj
     rw[if_pos hj];simp only[ab₀,ad₀]at h;obtain⟨rfl,rfl⟩:=h;exact⟨_,B2,rfl,h6,h5⟩
    ·simp at h
   ·simp at h
  ·rename_i mid j rest hk
   have hkk:=hpl.2.2;rw[hk]at hkk;simp only[EC,ac₀]at hkk;exact HM hp (oN hp n) hlo hpl.2.1 hpl.1 hkk.1 hkk.2 (ha.append (je _)) hH h
  ·simp at h
end
end Go.Abs
