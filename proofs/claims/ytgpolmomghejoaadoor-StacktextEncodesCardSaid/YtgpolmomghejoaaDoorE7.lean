/- Lemmas. -/
import Derived.Test.YtgpolmomghejoaaDoorE6
set_option linter.unusedVariables false
set_option linter.unusedSimpArgs false
set_option linter.unusedSectionVars false
namespace Go.Abs
def Ev(cp:FuncId→Option CF)(lo:Nat)(f:FuncId)(args:List Value)(H:Heap)(R:Value→Heap→Prop):Prop:=
 ∃N v H',(∀n,N≤n→run cp n lo f args H=some (.inl v,H'))∧R v H'
theorem Ev.mono{cp:FuncId→Option CF}{lo:Nat}{f:FuncId}{args:List Value}{H:Heap}{R R':Value→Heap→Prop}(h:Ev cp lo f args H R)(hr:∀v H',R v H'→R' v H'):Ev cp lo f args H R':=by
 obtain⟨N,v,H',h1,h2⟩:=h;exact⟨N,v,H',h1,hr _ _ h2⟩
def EvP(cp:FuncId→Option CF)(lo:Nat)(f:FuncId)(args:List Value)(H:Heap)(R:Value→Heap→Prop):Prop:=
 ∃N v H',(∀n,N≤n→run cp n lo f args H=some (.inr v,H'))∧R v H'
theorem EvP.mono{cp:FuncId→Option CF}{lo:Nat}{f:FuncId}{args:List Value}{H:Heap}{R R':Value→Heap→Prop}(h:EvP cp lo f args H R)(hr:∀v H',R v H'→R' v H'):EvP cp lo f args H R':=by
 obtain⟨N,v,H',h1,h2⟩:=h;exact⟨N,v,H',h1,hr _ _ h2⟩
abbrev aX:=Ex→List Value→Heap→Prop
def setD(S:List Value)(dst:Option Nat)(v:Value):List Value:=match dst with|some d=>S.set d v|none=>S
def aR(lo:Nat)(o:HOp)(vs:List Value)(H:Heap):Option (Value×Heap):=hsem (fun _ _ _ _=>none) lo o vs H
def wpH(cp:FuncId→Option CF)(lo:Nat)(o:HOp)(vs:List Value)(H:Heap)(R:Value→Heap→Prop):Prop:=
 match o with
 | .call raise=>match vs with
  | .func (.func f) first cap::args=>Ev cp (if raise then H.length else lo) f (first.toList++args++cap.toList) H R
  | _=>False
 | .callC=>match vs with
  | .func (.func f) first cap::args=>Ev cp lo f (first.toList++args++cap.toList) H R
  | _=>False
 | .callK n=>match vs.drop n with
  | .func (.func f) first cap::args=>Ev cp lo f (first.toList++args++cap.toList) H fun v H'=>(vs.take n).all (nG H H')=true∧R v H'
  | _=>False
 | o=>match aR lo o vs H with
  | some (v,H')=>R v H'
  | none=>False
def wpP(cp:FuncId→Option CF)(lo:Nat)(o:HOp)(vs:List Value)(H:Heap)(R:Value→Heap→Prop):Prop:=
 match o with
 | .call false=>match vs with
  | .func (.func f) first cap::args=>EvP cp lo f (first.toList++args++cap.toList) H R
  | _=>False
 | .pan=>match vs with
  | [.iface t v]=>R (.iface t v) H
  | _=>False
 | _=>False
def wpS(cp:FuncId→Option CF)(lo:Nat):Stm→aX→List Value→Heap→Prop
 | .skip,Q,S,H=>Q .normal S H
 | .sets l chk,Q,S,H=>match evSets S H l with
  | some vs=>evChk S H chk=true∧Q .normal (setAll S vs) H
  | none=>False
 | .hv l chk pc dst o a,Q,S,H=>match evSets S H l with
  | some vs=>evChk S H chk=true∧match holds S H pc with
   | some true=>match ev S H a with
    | some xs=>(wpH cp lo o xs H fun v H'=>Q .normal (setD (setAll S vs) dst v) H')∨(wpP cp lo o xs H fun v H'=>Q (.exit bF) (v::setAll S vs) H')
    | none=>False
   | some false=>Q .normal (setD (setAll S vs) dst undef) H
   | none=>False
  | none=>False
 | .dist a b,Q,S,H=>match ev1 S H a,ev1 S H b with
  | some x,some y=>(bE x=none∨bE x≠bE y)∧Q .normal S H
  | _,_=>False
 | .seq a b,Q,S,H=>wpS cp lo a (fun ex S' H'=>match ex with | .normal=>wpS cp lo b Q S' H'|ex=>Q ex S' H') S H
 | .cond c a b,Q,S,H=>match ev1 S H c with
  | some (.bool t)=>(t=true→wpS cp lo a Q S H)∧(t=false→wpS cp lo b Q S H)
  | _=>False
 | .block i b,Q,S,H=>wpS cp lo b (fun ex S' H'=>match ex with | .exit j=>if j=i then Q .normal S' H' else Q (.exit j) S' H'|ex=>Q ex S' H') S H
 | .loop b,Q,S,H=>∃(J:Nat→List Value→Heap→Prop) (m:Nat),J m S H∧∀m S H,J m S H→wpS cp lo b (fun ex S' H'=>match ex with | .normal=>∃m',m'<m∧J m' S' H'|ex=>Q ex S' H') S H
 | .exit i,Q,S,H=>Q (.exit i) S H
 | .ret,Q,S,H=>Q .ret S H
 | .alt l s r,Q,S,H=>match S with
  | .int .i64 t::S0=>(t=(l:Nat)→wpS cp lo s Q S0 H)∧(t≠(l:Nat)→wpS cp lo r Q S H)
  | _=>False
 | .scope b alts,Q,S,H=>∃(J:Nat→Nat→List Value→Heap→Prop),
   wpS cp lo b (fun ex S' H'=>match ex with | .exit j=>if bX≤j then ∃m,J m (j-bX) S' H' else Q (.exit j) S' H'|ex=>Q ex S' H') S H ∧
   ∀m l S H,J m l S H→wpS cp lo alts (fun ex S' H'=>match ex with | .exit j=>if bX≤j then ∃m',m'<m∧J m' (j-bX) S' H' else Q (.exit j) S' H'|ex=>Q ex S' H') (.int .i64 ((l:Nat):Int)::S) H
set_option maxHeartbeats 4000000 in
theorem rk{callA:dN}{lo:Nat}{o:HOp}{vs:List Value}{H:Heap}(h:o.isCall=false):hsem callA lo o vs H=aR lo o vs H:=by
 cases o<;>simp[HOp.isCall]at h
 all_goals (rcases vs with _|⟨a,_|⟨b,_|⟨c,r⟩⟩⟩)<;>first|rfl|(cases a<;>first|rfl|(rename_i ad;cases ad<;>first|rfl|(rename_i ad;rcases ad with ⟨i,o,_|z⟩<;>rfl))|(rename_i ad _ _;cases ad<;>first|rfl|(cases b<;>first|rfl|(rename_i bd _ _;cases bd<;>rfl)))|(cases b<;>first|rfl|(rename_i bd _ _;cases bd<;>rfl)))
theorem Dh{cp:FuncId→Option CF}{lo:Nat}{o:HOp}{vs:List Value}{H:Heap}{R:Value→Heap→Prop}(h:wpH cp lo o vs H R):∃N v H',(∀n,N≤n→hsem (run cp n).ret lo o vs H=some (v,H'))∧R v H':=by
 unfold wpH at h;split at h
 ·split at h
  ·obtain⟨N,v,H',h1,h2⟩:=h
   exact⟨N,v,H',fun n hn=>by grind[hsem,mX],h2⟩
  simp_all
 ·split at h
  ·obtain⟨N,v,H',h1,h2⟩:=h
   exact⟨N,v,H',fun n hn=>by grind[hsem,mX],h2⟩
  simp_all
 ·split at h
  ·obtain⟨N,v,H',h1,h2,h3⟩:=h
   exact⟨N,v,H',fun n hn=>by grind[hsem,eh,mX],h3⟩
  simp_all
 ·have hc:o.isCall=false:=by
   cases o<;>first|rfl|exact(hne _ rfl).elim|exact(hne2 rfl).elim|simp_all
  split at h
  ·rename_i v H' hs
   exact⟨0,v,H',fun n _=>by grind[rk],h⟩
  simp_all
theorem xd{c:CallR}{lo:Nat}{o:HOp}{vs:List Value}{H:Heap}{r:Value×Heap}(h:cQ c lo o vs H=some r):hsem c.ret lo o vs H=none:=by
 unfold cQ at h;split at h
 ·simp only[hsem,Bool.false_eq_true,if_false,CallR.ret,na h]
 ·rfl
 ·simp at h
theorem Ch{cp:FuncId→Option CF}{lo:Nat}{o:HOp}{vs:List Value}{H:Heap}{R:Value→Heap→Prop}(h:wpP cp lo o vs H R):∃N v H',(∀n,N≤n→cQ (run cp n) lo o vs H=some (v,H'))∧R v H':=by
 unfold wpP at h;split at h
 ·split at h
  ·obtain⟨N,v,H',h1,h2⟩:=h
   exact⟨N,v,H',fun n hn=>by grind[cQ,tk],h2⟩
  simp_all
 ·split at h
  ·exact⟨0,_,H,fun n hn=>rfl,h⟩
  simp_all
 simp_all
theorem eI{cp:FuncId→Option CF}{lo:Nat}:∀(st:Stm) (Q:aX) (S:List Value) (H:Heap),wpS cp lo st Q S H→∃N ex S' H',(∀n,N≤n→exec (run cp n) lo n st S H=some (ex,S',H'))∧Q ex S' H'
 | .skip,Q,S,H,h=>⟨0,.normal,S,H,fun _ _=>rfl,h⟩
 | .sets l chk,Q,S,H,h=>by
  simp only[wpS]at h;split at h
  ·rename_i vs hvs;exact⟨0,.normal,_,H,fun _ _=>by grind[exec],h.2⟩
  simp_all
 | .hv l chk pc dst o a,Q,S,H,h=>by
  simp only[wpS]at h;split at h
  ·rename_i vs hvs
   obtain⟨hchk,h⟩:=h;split at h
   ·rename_i hp
    split at h
    ·rename_i xs hxs
     rcases h with h|h
     ·obtain⟨N,v,H',h1,h2⟩:=Dh h
      refine⟨N,.normal,_,H',fun n hn=>?_,h2⟩;simp only[exec,hvs,hchk,if_true,hp,hxs,h1 n hn];rfl
     ·obtain⟨N,v,H',h1,h2⟩:=Ch h
      refine⟨N,.exit bF,_,H',fun n hn=>?_,h2⟩
      grind[exec,xd]
    simp_all
   ·rename_i hp
    refine⟨0,.normal,_,H,fun n _=>?_,h⟩;simp only[exec,hvs,hchk,if_true,hp];rfl
   simp_all
  simp_all
 | .dist a b,Q,S,H,h=>by
  simp only[wpS]at h;split at h
  ·rename_i x y hx hy;exact⟨0,.normal,S,H,fun _ _=>by grind[exec],h.2⟩
  simp_all
 | .seq a b,Q,S,H,h=>by
  simp only[wpS]at h;obtain⟨N,ex,S1,H1,h1,h2⟩:=eI a _ S H h;cases ex with
  | normal=>
   obtain⟨N2,ex2,S2,H2,h3,h4⟩:=eI b Q S1 H1 h2;exact⟨max N N2,ex2,S2,H2,fun n hn=>by grind[exec],h4⟩
  | exit i=>exact⟨N,.exit i,S1,H1,fun n hn=>by grind[exec],h2⟩
  | ret=>exact⟨N,.ret,S1,H1,fun n hn=>by grind[exec],h2⟩
 | .cond c a b,Q,S,H,h=>by
  simp only[wpS]at h;split at h
  ·rename_i t ht
   cases t
   ·obtain⟨N,ex,S1,H1,h1,h2⟩:=eI b Q S H (h.2 rfl)
    exact⟨N,ex,S1,H1,fun n hn=>by grind[exec],h2⟩
   ·obtain⟨N,ex,S1,H1,h1,h2⟩:=eI a Q S H (h.1 rfl)
    exact⟨N,ex,S1,H1,fun n hn=>by grind[exec],h2⟩
  simp_all
 | .block i b,Q,S,H,h=>by
  simp only[wpS]at h;obtain⟨N,ex,S1,H1,h1,h2⟩:=eI b _ S H h;cases ex with
  | normal=>exact⟨N,.normal,S1,H1,fun n hn=>by grind[exec],h2⟩
  | exit j=>
   simp only at h2;split at h2
   ·rename_i hj;exact⟨N,.normal,S1,H1,fun n hn=>by grind[exec],h2⟩
   ·rename_i hj;exact⟨N,.exit j,S1,H1,fun n hn=>by grind[exec],h2⟩
  | ret=>exact⟨N,.ret,S1,H1,fun n hn=>by grind[exec],h2⟩
 | .loop b,Q,S,H,h=>by
  simp only[wpS]at h;obtain⟨J,m,hJ,hstep⟩:=h;have key:∀m S H,J m S H→∃N ex S' H',(∀n k,N≤n→N≤k→iter (exec (run cp n) lo n b) k S H=some (ex,S',H'))∧Q ex S' H':=by
   intro m
   induction m using Nat.strongRecOn with
   | _ m ih=>
    intro S H hJ;obtain⟨N,ex,S1,H1,h1,h2⟩:=eI b _ S H (hstep m S H hJ);cases ex with
    | normal=>
     obtain⟨m',hlt,hJ'⟩:=h2;obtain⟨N2,ex2,S2,H2,h3,h4⟩:=ih m' hlt S1 H1 hJ';refine⟨max N N2+1,ex2,S2,H2,fun n k hn hk=>?_,h4⟩;obtain⟨k',rfl⟩:∃k',k=k'+1:=⟨k-1,by omega⟩
     grind[iter]
    | exit i=>
     refine⟨N+1,.exit i,S1,H1,fun n k hn hk=>?_,h2⟩;obtain⟨k',rfl⟩:∃k',k=k'+1:=⟨k-1,by omega⟩
     grind[iter]
    | ret=>
     refine⟨N+1,.ret,S1,H1,fun n k hn hk=>?_,h2⟩;obtain⟨k',rfl⟩:∃k',k=k'+1:=⟨k-1,by omega⟩
     grind[iter]
  obtain⟨N,ex,S',H',h1,h2⟩:=key m S H hJ;exact⟨N,ex,S',H',fun n hn=>by grind[exec],h2⟩
 | .exit i,Q,S,H,h=>⟨0,.exit i,S,H,fun _ _=>rfl,h⟩
 | .ret,Q,S,H,h=>⟨0,.ret,S,H,fun _ _=>rfl,h⟩
 | .alt l s r,Q,S,H,h=>by
  simp only[wpS]at h;split at h
  ·rename_i t S0
   by_cases ht:t=(l:Nat)
   ·obtain⟨N,ex,S1,H1,h1,h2⟩:=eI s _ S0 H (h.1 ht)
    exact⟨N,ex,S1,H1,fun n hn=>by grind[exec],h2⟩
   ·obtain⟨N,ex,S1,H1,h1,h2⟩:=eI r _ _ H (h.2 ht)
    exact⟨N,ex,S1,H1,fun n hn=>by grind[exec],h2⟩
  simp_all
 | .scope b alts,Q,S,H,h=>by
  simp only[wpS]at h;obtain⟨J,hb,hstep⟩:=h;have key:∀m l S H,J m l S H→∃N ex S' H',(∀n k,N≤n→N≤k→hop (exec (run cp n) lo n alts) k (exec (run cp n) lo n alts (.int .i64 ((l:Nat):Int)::S) H)=some (ex,S',H'))∧Q ex S' H':=by
   intro m
   induction m using Nat.strongRecOn with
   | _ m ih=>
    intro l S H hJ;obtain⟨N,ex,S1,H1,h1,h2⟩:=eI alts _ _ H (hstep m l S H hJ);cases ex with
    | normal=>exact⟨N,.normal,S1,H1,fun n k hn hk=>by rw[h1 n hn];cases k<;>rfl,h2⟩
    | ret=>exact⟨N,.ret,S1,H1,fun n k hn hk=>by rw[h1 n hn];cases k<;>rfl,h2⟩
    | exit j=>
     simp only at h2;split at h2
     ·obtain⟨m',hlt,hJ'⟩:=h2
      obtain⟨N2,ex2,S2,H2,h3,h4⟩:=ih m' hlt _ S1 H1 hJ';refine⟨max N N2+1,ex2,S2,H2,fun n k hn hk=>?_,h4⟩;obtain⟨k',rfl⟩:∃k',k=k'+1:=⟨k-1,by omega⟩
      grind[hop]
     ·rename_i hj
      exact⟨N,.exit j,S1,H1,fun n k hn hk=>by rw[h1 n hn];cases k<;>simp only[hop,if_neg hj],h2⟩
  obtain⟨N,ex,S1,H1,h1,h2⟩:=eI b _ S H hb;cases ex with
  | normal=>exact⟨N,.normal,S1,H1,fun n hn=>by simp only[exec];rw[h1 n hn];cases n<;>rfl,h2⟩
  | ret=>exact⟨N,.ret,S1,H1,fun n hn=>by simp only[exec];rw[h1 n hn];cases n<;>rfl,h2⟩
  | exit j=>
   simp only at h2;split at h2
   ·obtain⟨m',hJ'⟩:=h2
    obtain⟨N2,ex2,S2,H2,h3,h4⟩:=key m' _ S1 H1 hJ';refine⟨max N N2+1,ex2,S2,H2,fun n hn=>?_,h4⟩;simp only[exec];obtain⟨n',rfl⟩:∃n',n=n'+1:=⟨n-1,by omega⟩
    grind[hop]
   ·rename_i hj
    exact⟨N,.exit j,S1,H1,fun n hn=>by simp only[exec];rw[h1 n hn];cases n<;>simp only[hop,if_neg hj],h2⟩
def aS(cf:CF)(R:Value→Heap→Prop):aX:=fun ex S H=>match ex with
 | .exit _=>False
 | _=>match evList S H cf.res with
  | some vs=>R (aP vs) H
  | none=>False
theorem aI{cp:FuncId→Option CF}{lo:Nat}{f:FuncId}{cf:CF}{args:List Value}{H:Heap}{R:Value→Heap→Prop}(hcf:cp f=some cf)(hk:cf.kind=.plain)(hnp:args.length=cf.np)
  (h:wpS cp lo cf.body (aS cf R) (args++List.replicate (cf.ns-cf.np) undef) H):Ev cp lo f args H R:=by
 obtain⟨N,ex,S',H',h1,h2⟩:=eI _ _ _ _ h;have fin:∀(ex:Ex),(ex=.normal∨ex=.ret)→(∀n,N≤n→exec (run cp n) lo n cf.body (args++List.replicate (cf.ns-cf.np) undef) H=some (ex,S',H'))→aS cf R ex S' H'→Ev cp lo f args H R:=by
  intro ex hex h1 h2;have h3:match evList S' H' cf.res with|some vs=>R (aP vs) H'|none=>False:=by
   rcases hex with rfl|rfl<;>exact h2
  split at h3
  ·rename_i vs hvs
   refine⟨N+1,aP vs,H',fun n hn=>?_,h3⟩;obtain⟨n',rfl⟩:∃n',n=n'+1:=⟨n-1,by omega⟩
   grind[run]
  simp_all
 cases ex with
 | normal=>simp_all
 | exit i=>exact h2.elim
 | ret=>simp_all
def wpR(cp:FuncId→Option CF)(lo:Nat)(g:FuncId)(args:List Value)(rv:Value)(H:Heap)(K:Heap→Prop):Prop:=
 ∃cg k,cp g=some cg∧cg.kind=.rcv k∧args.length=cg.np∧wpS cp lo cg.body (fun ex _ H'=>match ex with | .exit _=>False|_=>K H') ((args++List.replicate (cg.ns-cg.np) undef).set k rv) H
def rn(res:List E)(R:Value→Heap→Prop)(S:List Value)(H:Heap):Prop:=match evList S H res with
 | some vs=>R (aP vs) H
 | none=>False
def Ft(cp:FuncId→Option CF)(lo:Nat)(g:FuncId)(args:List Value)(res:List E)(R:Value→Heap→Prop):aX:=fun ex S H=>match ex with
 | .exit i=>i=bF∧match S with
  | p::S'=>wpR cp lo g args p H (rn res R S')
  | []=>False
 | _=>wpR cp lo g args .nilIface H (rn res R S)
def DR(cp:FuncId→Option CF)(lo j:Nat)(rest:Stm)(res:List E)(R:Value→Heap→Prop):aX:=fun ex S H=>match ex with
 | .normal=>match S[j]? with
  | some (.func (.func g) first cap)=>wpS cp lo rest (Ft cp lo g (first.toList++cap.toList) res R) S H
  | _=>False
 | _=>False
def rP(cp:FuncId→Option CF)(lo:Nat)(mid:Stm)(j:Nat)(rest:Stm)(res:List E)(R:Value→Heap→Prop):aX:=fun ex S H=>match ex with
 | .ret=>rn res R S H
 | .normal=>wpS cp lo mid (DR cp lo j rest res R) S H
 | .exit _=>False
theorem tU{cp:FuncId→Option CF}{lo:Nat}{g:FuncId}{args:List Value}{rv:Value}{H:Heap}{K:Heap→Prop}(h:wpR cp lo g args rv H K):∃N H',(∀n,N≤n→lE cp (run cp n) lo n g args rv H=some H')∧K H':=by
 obtain⟨cg,k,h1,h2,h3,h4⟩:=h;obtain⟨N,ex,S',H',h5,h6⟩:=eI _ _ _ _ h4;refine⟨N,H',fun n hn=>?_,?_⟩
 ·simp only[lE,h1,h2,h3,h5 n hn]
  cases ex with
  | exit i=>exact h6.elim
  | normal=>rfl
  | ret=>rfl
 grind
theorem vg{cp:FuncId→Option CF}{lo:Nat}{f:FuncId}{cf:CF}{mid rest:Stm}{j:Nat}{args:List Value}{H:Heap}{R:Value→Heap→Prop}(hcf:cp f=some cf)(hk:cf.kind=.dfr mid j rest)(hnp:args.length=cf.np)
  (h:wpS cp lo cf.body (rP cp lo mid j rest cf.res R) (args++List.replicate (cf.ns-cf.np) undef) H):Ev cp lo f args H R:=by
 have res:∀{S H1},rn cf.res R S H1→∃v,pG cf.res S H1=some (.inl v,H1)∧R v H1:=by
  grind[rn,pG]
 have fin:∀N v H',(∀n,N≤n→k8 cp (run cp n) lo n cf.res cf.body mid j rest (args++List.replicate (cf.ns-cf.np) undef) H=some (.inl v,H'))→R v H'→Ev cp lo f args H R:=by
  intro N v H' h1 h2;refine⟨N+1,v,H',fun n hn=>?_,h2⟩;obtain⟨n',rfl⟩:∃n',n=n'+1:=⟨n-1,by omega⟩
  grind[run]
 obtain⟨N,ex,S,H1,h1,h2⟩:=eI _ _ _ _ h;cases ex with
 | exit i=>exact h2.elim
 | ret=>
  obtain⟨v,h3,h4⟩:=res h2;exact fin N v H1 (fun n hn=>by grind[k8]) h4
 | normal=>
  obtain⟨N2,ex2,S1,H2,h3,h4⟩:=eI _ _ _ _ h2;cases ex2 with
  | exit i=>exact h4.elim
  | ret=>exact h4.elim
  | normal=>
   simp only[DR]at h4;split at h4
   ·rename_i g first cap hg
    obtain⟨N3,ex3,S2,H3,h5,h6⟩:=eI _ _ _ _ h4;cases ex3 with
    | exit i=>
     obtain⟨rfl,h6⟩:=h6;cases S2 with
     | nil=>exact h6.elim
     | cons p S3=>
      obtain⟨N4,H4,h7,h8⟩:=tU h6;obtain⟨v,h9,h10⟩:=res h8;exact fin (max (max N N2) (max N3 N4)) v H4 (fun n hn=>by grind[k8]) h10
    | normal=>
     obtain⟨N4,H4,h7,h8⟩:=tU h6;obtain⟨v,h9,h10⟩:=res h8;exact fin (max (max N N2) (max N3 N4)) v H4 (fun n hn=>by grind[k8]) h10
    | ret=>
     obtain⟨N4,H4,h7,h8⟩:=tU h6;obtain⟨v,h9,h10⟩:=res h8;exact fin (max (max N N2) (max N3 N4)) v H4 (fun n hn=>by grind[k8]) h10
   simp_all
theorem jn{P:Program}{cp:FuncId→Option CF}(hok:∀base n,RunOK P base P.globals.size (run cp n)){f:FuncId}{args cargs:List Value}{H:Heap}{φ:Map}{w:World}{R:Value→Heap→Prop}
  (hH:HRel φ H.length P.globals.size H w) (hargs:LRel φ args cargs) (h:Ev cp H.length f args H R) :
  Calls P f cargs.toArray w fun e w'=>∃v cv H' φ',R v H'∧e=.returned cv∧Eff φ H.length P.globals.size H.length H w φ' H' w'∧VRel φ' v cv:=by
 obtain⟨N,v,H',h1,h2⟩:=h;have:=((hok H.length N).toRet H.length f args H v H' (Nat.le_refl _) (Nat.le_refl _) (mX (h1 N (Nat.le_refl _)))).2 φ w cargs hH hargs
 grind[Calls.mono]
structure Mv where
 n:Nat
 w:Nat
 b:Nat
 w1:w≤1
 bn:w=1→b<n
def Mv.f(k:Mv)(i:Nat):Nat:=if i<k.w then k.b else k.n+i-k.w
theorem Mv.ge(k:Mv){i:Nat}(h:k.w≤i):k.f i+k.w=k.n+i:=by grind[f]
theorem Mv.lt(k:Mv){i:Nat}(h:i<k.w):k.f i<k.n∧i=0:=by grind[f,w1,bn]
theorem Mv.or(k:Mv)(i:Nat):(k.w≤i∧k.f i+k.w=k.n+i)∨(i<k.w∧i=0∧k.f i<k.n):=by
 by_cases h:k.w≤i
 ·grind[ge]
 ·exact .inr ⟨by omega,(k.lt (by omega)).2,(k.lt (by omega)).1⟩
theorem Mv.inj(k:Mv){i j:Nat}(h:k.f i=k.f j):i=j:=by have:=k.or i;have:=k.or j;omega
def Mv.le(k:Mv)(lo' lo:Nat):Prop:=k.w≤lo∧lo'+k.w≤k.n+lo
inductive Sh (k:Mv):Value→Value→Prop where
 | bool (b:Bool):Sh k (.bool b) (.bool b)
 | int (i:IntKind) (n:Int):Sh k (.int i n) (.int i n)
 | float (i:FloatKind) (n:Nat):Sh k (.float i n) (.float i n)
 | string (s:ByteArray):Sh k (.string s) (.string s)
 | nilPtr:Sh k (.pointer none) (.pointer none)
 | ptr (i o:Nat) (sp:Option Nat):Sh k (.pointer (some ⟨i,o,sp⟩)) (.pointer (some ⟨k.f i,o,sp⟩))
 | nilSlice (l c:Nat):Sh k (.slice none l c) (.slice none l c)
 | slice (i o l c:Nat) (sp:Option Nat):Sh k (.slice (some ⟨i,o,sp⟩) l c) (.slice (some ⟨k.f i,o,sp⟩) l c)
 | nilMap:Sh k (.map none) (.map none)
 | map (i:Nat):Sh k (.map (some i)) (.map (some (k.f i)))
 | func (f:FuncId) (a b a' b':Array Value) (ha:a.size=a'.size) (hb:b.size=b'.size)
   (ra:∀(j:Nat) x y,a[j]?=some x→a'[j]?=some y→Sh k x y) (rb:∀(j:Nat) x y,b[j]?=some x→b'[j]?=some y→Sh k x y) :
   Sh k (.func (.func f) a b) (.func (.func f) a' b')
 | nilFunc:Sh k .nilFunc .nilFunc
 | iface (t:TypeId) (v v':Value) (h:Sh k v v'):Sh k (.iface t v) (.iface t v')
 | nilIface:Sh k .nilIface .nilIface
 | agg (a a':Array Value) (ha:a.size=a'.size) (ra:∀(j:Nat) x y,a[j]?=some x→a'[j]?=some y→Sh k x y):Sh k (.agg a) (.agg a')
 | tuple (a a':Array Value) (ha:a.size=a'.size) (ra:∀(j:Nat) x y,a[j]?=some x→a'[j]?=some y→Sh k x y):Sh k (.tuple a) (.tuple a')
def LSh(k:Mv)(l l':List Value):Prop:=l.length=l'.length∧∀(j:Nat) x y,l[j]?=some x→l'[j]?=some y→Sh k x y
section
variable {k:Mv}
theorem LSh.nil:LSh k [] []:=⟨rfl,fun j x y a=>by simp at a⟩
theorem LSh.cons{x y:Value}{l l':List Value}(h:Sh k x y)(r:LSh k l l'):LSh k (x::l) (y::l'):=by
 refine⟨by simp[r.1],fun j a b ha hb=>?_⟩;cases j with
 | zero=>simp_all
 | succ j=>exact r.2 j a b ha hb
theorem LSh.of_cons{x:Value}{l l':List Value}(r:LSh k (x::l) l'):∃y r',l'=y::r'∧Sh k x y∧LSh k l r':=by
 cases l' with
 | nil=>have:=r.1;simp at this
 | cons y r'=>
  refine⟨y,r',rfl,r.2 0 x y rfl rfl,?_,fun j a b ha hb=>r.2 (j+1) a b (by simp_all) (by simp_all)⟩;have:=r.1;simp_all
theorem LSh.of_nil{l':List Value}(r:LSh k [] l'):l'=[]:=by
 cases l' with
 | nil=>rfl
 | cons y r'=>have:=r.1;simp at this
theorem LSh.append{a b a' b':List Value}(h:LSh k a a')(g:LSh k b b'):LSh k (a++b) (a'++b'):=by
 refine⟨by simp[h.1,g.1],fun j x y hx hy=>?_⟩;by_cases hj:j<a.length
 ·rw[List.getElem?_append_left hj]at hx
  rw[List.getElem?_append_left (h.1▸hj)]at hy;exact h.2 j x y hx hy
 ·rw[List.getElem?_append_right (by omega)]at hx
  rw[List.getElem?_append_right (by rw[←h.1];omega)]at hy;exact g.2 (j-a.length) x y hx (by rw[h.1];exact hy)
theorem LSh.take{a a':List Value}(h:LSh k a a')(n:Nat):LSh k (a.take n) (a'.take n):=by
 refine⟨by simp[h.1],fun j x y hx hy=>?_⟩;rw[List.getElem?_take]at hx hy;split at hx
 ·rename_i hj;rw[if_pos hj]at hy;exact h.2 j x y hx hy
 ·simp at hx
theorem LSh.drop{a a':List Value}(h:LSh k a a')(n:Nat):LSh k (a.drop n) (a'.drop n):=by
 refine⟨by simp[h.1],fun j x y hx hy=>?_⟩;rw[List.getElem?_drop]at hx hy;exact h.2 _ x y hx hy
theorem LSh.arr{a a':Array Value}:LSh k a.toList a'.toList↔(a.size=a'.size∧∀(j:Nat) x y,a[j]?=some x→a'[j]?=some y→Sh k x y):=by
 simp[LSh]
theorem LSh.putCells{c c' v v':List Value}(h:LSh k c c')(g:LSh k v v')(off:Nat):LSh k (putCells c off v) (putCells c' off v'):=by
 unfold Abs.putCells;rw[←g.1]
 grind[append,take,drop]
theorem LSh.set{S S':List Value}(h:LSh k S S'){v v':Value}(hv:Sh k v v')(j:Nat):LSh k (S.set j v) (S'.set j v'):=by
 refine⟨by simp[h.1],fun i x y hx hy=>?_⟩;rw[List.getElem?_set]at hx hy;split at hx
 ·simp_all
 ·rename_i e;rw[if_neg e]at hy;exact h.2 i x y hx hy
theorem Sh.cells{v c:Value}(h:Sh k v c):LSh k v.cells.toList c.cells.toList:=by
 have one:∀{v c:Value},Sh k v c→LSh k [v] [c]:=fun h=>LSh.cons h LSh.nil;cases h with
 | agg a a' ha ra=>exact LSh.arr.2 ⟨ha,ra⟩
 | bool b=>exact one (.bool b)
 | int k n=>exact one (.int k n)
 | float k n=>exact one (.float k n)
 | string s=>exact one (.string s)
 | nilPtr=>exact one .nilPtr
 | ptr i o sp=>exact one (.ptr i o sp)
 | nilSlice l c=>exact one (.nilSlice l c)
 | slice i o l c sp=>exact one (.slice i o l c sp)
 | nilMap=>exact one .nilMap
 | map i=>exact one (.map i)
 | func f a b a' b' ha hb ra rb=>exact one (.func f a b a' b' ha hb ra rb)
 | nilFunc=>exact one .nilFunc
 | iface t v v' h=>exact one (.iface t v v' h)
 | nilIface=>exact one .nilIface
 | tuple a a' ha ra=>exact one (.tuple a a' ha ra)
theorem Sh.oneCell{v c:Value}(h:Sh k v c):c.oneCell'=v.oneCell':=by cases h<;>rfl
theorem LSh.oneCells{l l':List Value}(r:LSh k l l'):Abs.oneCells l'=Abs.oneCells l:=by
 unfold Abs.oneCells
 induction l generalizing l' with
 | nil=>rw[r.of_nil]
 | cons a l ih=>
  grind[of_cons,Sh.oneCell]
structure HSh (k:Mv)(H B:Heap):Prop where
 len:B.length+k.w=k.n+H.length∧k.w≤H.length
 get:∀i c,H.get i=some c→∃c',B.get (k.f i)=some c'∧LSh k c c'
theorem HSh.cells{H B:Heap}(h:HSh k H B){i off n:Nat}{l:List Value}(hc:H.cells i off n=some l):∃l',B.cells (k.f i) off n=some l'∧LSh k l l':=by
 unfold Heap.cells at hc ⊢;split at hc
 ·rename_i c hg
  obtain⟨c',h1,h2⟩:=h.get i c hg;rw[h1];simp only;split at hc
  ·rename_i hle
   rw[if_pos (by rw[←h2.1];exact hle)]
   grind[LSh.take,LSh.drop]
  ·simp at hc
 ·simp at hc
inductive FSh (k:Mv):Option (Nat×Value)→Option (Nat×Value)→Prop where
 | none:FSh k none none
 | some (i:Nat) (v v':Value) (h:Sh k v v'):FSh k (some (i,v)) (some (i,v'))
theorem LSh.one{vs vs':List Value}(h:LSh k vs vs'){x:Value}(e:vs=[x]):∃x',vs'=[x']∧Sh k x x':=by
 grind[of_cons,of_nil]
end
section
variable {k:Mv}
theorem eC{H:Heap}{i:Nat}{c:List Value}:H.get i=some c↔H[i]?=some (some c):=by
 grind[Heap.get]
structure MSh (k:Mv)(B:Heap)(H' B':Heap):Prop where
 sh:HSh k H' B'
 pre:∀i,i<k.n→B'[i]?=B[i]?
theorem MSh.refl{H B:Heap}(h:HSh k H B):MSh k B H B:=⟨h,fun _ _=>rfl⟩
theorem MSh.trans{B H1 B1 H2 B2:Heap}(h:MSh k B H1 B1)(g:MSh k B1 H2 B2):MSh k B H2 B2:=⟨g.sh,fun i hi=>(g.pre i hi).trans (h.pre i hi)⟩
theorem HSh.push{H B:Heap}(h:HSh k H B){c c':List Value}(hc:LSh k c c'):MSh k B (H++[some c]) (B++[some c']):=by
 have hl:=h.len;refine⟨⟨by grind,fun i d hd=>?_⟩,fun i hi=>?_⟩
 ·have hf:=k.or i
  rw[eC]at hd;by_cases hi:i<H.length
  ·rw[List.getElem?_append_left hi]at hd
   obtain⟨d',h1,h2⟩:=h.get i d (eC.2 hd)
   grind[eC]
  grind[eC]
 grind
theorem HSh.setB{H B:Heap}(h:HSh k H B){i:Nat}(hw:k.w≤i){c c':Option (List Value)}(hc:∀d,c=some d→∃d',c'=some d'∧LSh k d d'):MSh k B (H.set i c) (B.set (k.f i) c'):=by
 have hl:=h.len;have hf:=k.or i;refine⟨⟨by simp_all,fun j d hd=>?_⟩,fun j hj=>?_⟩
 ·rw[eC,List.getElem?_set]at hd
  split at hd
  ·grind[eC]
  ·obtain⟨d',h1,h2⟩:=h.get j d (eC.2 hd)
   grind[eC,Mv.inj]
 grind
theorem HSh.put{H B H':Heap}(h:HSh k H B){lo lo' i off:Nat}(hlo:k.le lo' lo){vs vs':List Value}(hv:LSh k vs vs')(hp:H.put lo i off vs=some H'):∃B',B.put lo' (k.f i) off vs'=some B'∧MSh k B H' B':=by
 unfold Heap.put at hp ⊢;split at hp
 ·rename_i c hc
  obtain⟨c',h1,h2⟩:=h.get i c hc;rw[h1];split at hp
  ·rename_i hle
   simp only;have hf:=k.or i;rw[if_pos ⟨by grind[Mv.le],by rw[←hv.1,←h2.1];exact hle.2⟩]
   grind[Mv.le,setB,LSh.putCells]
  ·simp at hp
 ·simp at hp
theorem LSh.replicate{z:List Value}(hz:LSh k z z):∀n,LSh k (bV z n) (bV z n)
 | 0=>by grind[bV,nil]
 | n+1=>by
  have:=LSh.replicate hz n
  grind[bV,append]
theorem LSh.bytes(l:List UInt8):LSh k (l.map fun b=>Value.int .u8 b.toNat) (l.map fun b=>Value.int .u8 b.toNat):=by
 induction l with
 | nil=>exact LSh.nil
 | cons a l ih=>exact LSh.cons (.int _ _) ih
def CSh(k:Mv)(callA callB:dN):Prop:=
 ∀lo lo' f args args' H B v H',k.le lo' lo→LSh k args args'→HSh k H B→callA lo f args H=some (v,H') →
  ∃v' B',callB lo' f args' B=some (v',B')∧Sh k v v'∧MSh k B H' B'
def RSh(k:Mv):Value ⊕ Value→Value ⊕ Value→Prop
 | .inl v,.inl u=>Sh k v u
 | .inr v,.inr u=>Sh k v u
 | _,_=>False
def CShR(k:Mv)(cA cB:CallR):Prop:=
 ∀lo lo' f args args' H B r H',k.le lo' lo→LSh k args args'→HSh k H B→cA lo f args H=some (r,H') →
  ∃r' B',cB lo' f args' B=some (r',B')∧RSh k r r'∧MSh k B H' B'
theorem CShR.toRet{cA cB:CallR}(h:CShR k cA cB):CSh k cA.ret cB.ret:=fun lo lo' f args args' H B v H' h1 h2 h3 e=>by
 obtain⟨r',B',g1,g2,g3⟩:=h lo lo' f args args' H B _ H' h1 h2 h3 (qW e);cases r' with
 | inl u=>exact⟨u,B',mX g1,g2,g3⟩
 | inr u=>exact g2.elim
theorem CShR.toPan{cA cB:CallR}(h:CShR k cA cB):CSh k cA.pan cB.pan:=fun lo lo' f args args' H B v H' h1 h2 h3 e=>by
 obtain⟨r',B',g1,g2,g3⟩:=h lo lo' f args args' H B _ H' h1 h2 h3 (na e);cases r' with
 | inr u=>exact⟨u,B',tk g1,g2,g3⟩
 | inl u=>exact g2.elim
theorem Mv.up{k:Mv}{lo lo' i:Nat}(hlo:k.le lo' lo)(h:lo≤i):lo'≤k.f i:=by have:=k.or i;grind[le]
end
end Go.Abs
