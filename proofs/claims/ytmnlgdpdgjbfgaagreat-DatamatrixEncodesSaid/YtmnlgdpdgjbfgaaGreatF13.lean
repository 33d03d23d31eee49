/- Lemmas. -/
import Derived.Test.YtmnlgdpdgjbfgaaGreatF11
import Derived.Test.YtmnlgdpdgjbfgaaGreatF12
import Derived.KernelRfl
set_option linter.all false
namespace Go.Abs
def Hr(cf:lG)(ca:CallR):Prop:=∀(lo f:Nat) (args:List FV) (A:FH) (H:Heap) (k:FV->FH->Bool),RH A H->cf lo f args A k=true->∃x A' H',ca lo f (toL args) H=some (.inl (toV x),H')/\RH A' H'/\k x A'=true
theorem xk{cf:lG}{ca:CallR}(hc:Hr cf ca){lo:Nat}{vs:List FV}{A:FH}{H:Heap}(rh:RH A H){k:FV->FH->Bool}{raise:Bool}(h:fCall raise cf lo vs A k=true) :
  ∃f first cap r,toL vs=.func (.func f) first cap::r/\zH (ca.ret (if raise then H.length else lo) f (first.toList++r++cap.toList) H) k:=by
 rcases vs with _|⟨x,r⟩
 ·cases h
 have e:fCall.bB' raise A.size lo=if raise then H.length else lo:=by rw[rh.size];cases raise<;>rfl
 obtain⟨v,rfl,h1⟩:=(xE h).resolve_right (by simp);cases v<;>try cases h1
 case func fn first cap=>
  cases fn<;>try cases h1
  case func f=>
   obtain⟨a,ha,h2⟩:=ki (show ofL first.toList (fun a=>ofL cap.toList fun c=>cf (fCall.bB' raise A.size lo) f (a++r++c) A k)=true from h1);obtain⟨c,hc',h3⟩:=ki h2;obtain⟨y,A',H',h4,r4,h5⟩:=hc _ _ _ _ _ _ rh h3;refine⟨f,first,cap,toL r,rfl,y,A',H',?_,r4,h5⟩
   grind[wo,CallR.ret]
theorem FQ{cf:lG}{ca:CallR}(hc:Hr cf ca){o:HOp}{lo:Nat}{vs:List FV}{A:FH}{H:Heap}(rh:RH A H){k:FV->FH->Bool}(h:Lv o cf lo vs A k=true):zH (hsem ca.ret lo o (toL vs) H) k:=by
 cases o
 case call raise=>
  obtain⟨f,first,cap,r,h1,h2⟩:=xk hc rh (show fCall raise cf lo vs A k=true from h);rw[h1];exact h2
 case callC=>
  obtain⟨f,first,cap,r,h1,h2⟩:=xk hc rh (show fCall false cf lo vs A k=true from h);rw[h1];exact h2
 case alloc zero=>
  rcases vs with _|⟨x,r⟩
  ·obtain⟨l,h1,h2⟩:=ki (show ofL zero (fun l=>A.pushL l fun b H=>k (.p b 0) H)=true from h)
   obtain⟨A',h3,r3⟩:=kG rh h2;rw[h1]at r3;exact⟨_,A',_,rfl,r3,h3⟩
  ·cases h
 case box=>
  obtain⟨x,rfl,h1⟩:=jZ h;obtain⟨l,h2,h3⟩:=tp h1;obtain⟨A',h4,r4⟩:=kG rh h3;rw[h2]at r4;exact⟨_,A',_,rfl,r4,h4⟩
 case mkSl zero=>
  obtain⟨x,y,rfl,h1⟩:=(sG h).resolve_right (by simp);obtain⟨kd,l,rfl,h2⟩:=(tj h1).resolve_right (by simp);obtain⟨kd',c,rfl,h3⟩:=(tj h2).resolve_right (by simp);obtain⟨hl,h4⟩:=eJ h3;obtain⟨hm,h5⟩:=eJ h4;have hl:l<=c:=Nat.le_of_ble_eq_true hl;have hm:c<=br:=Nat.le_of_ble_eq_true hm;have key:∀{A':FH},RH A' (H++[some (bH zero c)])->k (.s H.length 0 l c none) A'=true->zH (hsem ca.ret lo (.mkSl zero) (toL [.i kd l,.i kd' c]) H) k:=by
   intro A' r h;refine⟨_,A',_,?_,r,h⟩
   grind[yy,toV,hsem]
  have gen:ofL (bH zero c) (fun z=>A.pushL z fun b H=>k (.s b 0 l c none) H)=true->zH (hsem ca.ret lo (.mkSl zero) (toL [.i kd l,.i kd' c]) H) k:=by
   grind[ki,kG]
  rcases zero with _|⟨z,_|⟨z',zs⟩⟩
  ·exact gen h5
  ·obtain⟨x,hx,h6⟩:=wC (show ofV z (fun z=>T.rep z 40 c fun t=>A.push (.mk c t) fun b H=>k (.s b 0 l c none) H)=true from h5)
   obtain⟨t,h7,r7⟩:=T.rep_rep x 40 c h6;obtain⟨A',h8,r8⟩:=wM rh (x:=.mk c t) (y:=some (bH [z] c)) ⟨_,r7,by simp,by simp_all[bH,gK]⟩ h7
   grind
  ·exact gen h5
 case bSl zero len idx=>
  obtain⟨l,h1,h2⟩:=qM (show oB (buildL (bH zero len) (idx.map fun i=>(i*zero.length,zero.length)) (toL vs)) (fun l=>ofL l fun l=>A.pushL l fun b H=>k (.s b 0 len len none) H)=true from h);obtain⟨m,h3,h4⟩:=ki h2;obtain⟨A',h5,r5⟩:=kG rh h4;rw[h3]at r5;exact⟨_,A',_,by simp only[hsem,h1];rfl,r5,h5⟩
 case st n=>
  obtain⟨x,y,rfl,h1⟩:=(sG h).resolve_right (by simp);obtain⟨b,o,rfl,h2⟩:=(xF h1).resolve_right (by simp);obtain⟨l,h3,h4⟩:=tp h2;obtain⟨hn,h5⟩:=eJ h4;obtain⟨h6,h7⟩:=qZ h5;obtain⟨A',H',h8,h9,r9⟩:=Hm rh h7;have hn:(toV y).cells.size=n:=by grind[Nat.eq_of_beq_eq_true,m7]
  have ho:=wH h6;rw[h3]at h9 ho;refine⟨Dh,A',H',?_,r9,h8⟩;simp only[yy,toV,hsem];rw[if_pos ⟨hn,ho⟩];exact congrArg (Option.map fun H'=>(undef,H')) h9
 case app sz z=>
  obtain⟨s,x,rfl,h1⟩:=(sG h).resolve_right (by simp);rcases x with _|_|_|⟨b,o,n,c,sp⟩|v
  ·cases h1
  ·cases h1
  ·cases h1
  ·grind[CA,qZ,vC,yy,toV,hsem,wH]
  ·cases v<;>try cases h1
   case slice a n c=>
    cases a
    ·obtain⟨h2,h3⟩:=eJ h1
     obtain⟨y,A',H',h6,h7⟩:=vC rh h3;refine⟨y,A',H',?_,h7⟩;simp only[yy,toV,hsem];rw[if_pos (Nat.eq_of_beq_eq_true h2)];exact h6
    ·cases h1
 case appS z=>
  obtain⟨s,x,rfl,h1⟩:=(sG h).resolve_right (by simp);obtain⟨v,rfl,h2⟩:=(xE h1).resolve_right (by simp);cases v<;>try cases h2
  case string b=>
   obtain⟨l,h3,h4⟩:=ki h2;rw[fG]at h4;obtain⟨y,A',H',h6,h7⟩:=vC rh h4;rw[h3]at h6;exact⟨y,A',H',h6,h7⟩
 case cpy sz=>
  obtain⟨d,a,rfl,h1⟩:=(sG h).resolve_right (by simp);rcases tl h1 with ⟨b,o,n,c,sp,rfl,h2⟩|h2
  ·rcases tl h2 with ⟨b',o',m,c',sp',rfl,h3⟩|h3
   ·rw[fG]at h3
    obtain⟨new,h4,_,h5⟩:=CA rh h3;obtain⟨h6,h7⟩:=qZ h4;obtain⟨A',H',h8,h9,r9⟩:=Hm rh h7;have h5:H.cells b' o' (min m n*sz)=some (toL new):=h5;refine⟨_,A',H',?_,r9,h8⟩
    grind[yy,toV,hsem,wH]
   ·obtain⟨v,rfl,h4⟩:=(xE h3).resolve_right (by simp)
    cases v<;>try cases h4
    case slice a m c'=>
     cases a
     ·obtain⟨h5,h6⟩:=eJ h4
      refine⟨_,A,H,?_,rh,h6⟩
      grind[yy,toV,hsem,Nat.eq_of_beq_eq_true]
     ·cases h4
  ·obtain⟨v,rfl,h3⟩:=(xE h2).resolve_right (by simp)
   cases v<;>try cases h3
   case slice a' n c=>
    cases a'
    ·obtain⟨h4,h5⟩:=eJ h3
     obtain⟨h6,h7⟩:=eJ h5;have ha:∃p l c,toV a=.slice p l c:=by
      rcases a with _|_|_|⟨b,o,l,c,sp⟩|v
      ·cases h6
      ·cases h6
      ·cases h6
      ·exact⟨_,_,_,rfl⟩
      ·cases v<;>first|exact⟨_,_,_,rfl⟩|cases h6
     obtain⟨p,l,c',ha⟩:=ha;refine⟨_,A,H,?_,rh,h7⟩
     grind[yy,toV,hsem,Nat.eq_of_beq_eq_true]
    ·cases h3
 case s2b=>
  obtain⟨x,rfl,h1⟩:=jZ h;obtain⟨v,rfl,h2⟩:=(xE h1).resolve_right (by simp);cases v<;>try cases h2
  case string b=>
   obtain⟨l,h3,h4⟩:=ki h2;rw[fG]at h4;obtain⟨A',h5,r5⟩:=kG rh h4;rw[h3]at r5;exact⟨_,A',_,rfl,r5,h5⟩
 case frz=>
  obtain⟨x,rfl,h1⟩:=jZ h;obtain⟨b,o,n,c,sp,rfl,h2⟩:=(tl h1).resolve_right (by simp);cases sp with
  | none=>
   obtain⟨u,l,h3,_,hg,_⟩:=rC rh (show A.blk b (fun _ _=>bB (Nat.ble lo b) (k (.s b o n c none) A) false)=true from h2);obtain⟨h4,h5⟩:=eJ h3;refine⟨_,A,H,?_,rh,h5⟩
   grind[kv,toV,hsem,k9,Nat.le_of_ble_eq_true]
  | some z=>cases h2
 case fail=>cases h
 case pan=>cases h
def XO1(fx:FS->FH->(Ex->FS->FH->Bool)->Bool)(ex:List Value->Heap->Out):Prop:=∀(F:FS) (S:List Value) (A:FH) (H:Heap) (k:Ex->FS->FH->Bool),RS F S->RH A H->fx F A k=true ->
 ∃x F' S' A' H',ex S H=some (x,S',H')/\RS F' S'/\RH A' H'/\k x F' A'=true
def XOK(fx:FX)(ex:Nat->List Value->Heap->Out):Prop:=∀lo,XO1 (fx lo) (ex lo)
theorem iG{ex:Nat->List Value->Heap->Out}:XOK noX ex:=fun _ _ _ _ _ _ _ _ h=>by cases h
theorem rG{x:Ex}{n r:Bool}{e:Nat->Bool}(h:cEx x n e r=true):(x=.normal/\n=true)\/(∃i,x=.exit i/\e i=true)\/(x=.ret/\r=true):=by
 cases x
 ·exact .inl ⟨rfl,h⟩
 ·exact .inr (.inl ⟨_,rfl,h⟩)
 ·exact .inr (.inr ⟨rfl,h⟩)
theorem Fl{fx:FX}{ex:Nat->List Value->Heap->Out}(hx:XOK fx ex):∀n,XOK (itF fx n) (fun lo=>iter (ex lo) n)
 | 0=>fun _ _ _ _ _ _ _ _ h=>by cases h
 | n+1=>fun lo F S A H k rs rh h=>by
  obtain⟨x,F',S',A',H',h1,r1,r2,h2⟩:=hx lo F S A H _ rs rh (show fx lo F A (fun x S H=>cEx x (itF fx n lo S H k) (fun i=>k (.exit i) S H) (k .ret S H))=true from h);rcases rG h2 with ⟨rfl,h3⟩|⟨i,rfl,h3⟩|⟨rfl,h3⟩
  ·obtain⟨x2,F2,S2,A2,H2,h4,h5⟩:=Fl hx n _ _ _ _ _ _ r1 r2 h3
   grind[iter]
  all_goals grind[iter]
theorem BY{f:Nat->FX}{lo:Nat}{g:List Value->Heap->Out}(hf:∀t:Nat,XO1 (f t lo) (fun S H=>g (.int .i64 (t:Int)::S) H)) :
  ∀n {x:Ex} {F:FS} {S:List Value} {A:FH} {H:Heap} {k:Ex->FS->FH->Bool},RS F S->RH A H->Ib f lo n x F A k=true ->
   ∃x' F' S' A' H',hop g n (some (x,S,H))=some (x',S',H')/\RS F' S'/\RH A' H'/\k x' F' A'=true
 | 0,x,F,S,A,H,k,rs,rh,h=>by cases h
 | n+1,x,F,S,A,H,k,rs,rh,h=>by
  rcases rG (show cEx x (k .normal F A) (fun j=>bB (Nat.ble 1000000 j) (f (Nat.sub j 1000000) lo F A fun x S H=>Ib f lo n x S H k) (k (.exit j) F A)) (k .ret F A)=true from h)with ⟨rfl,h3⟩|⟨j,rfl,h3⟩|⟨rfl,h3⟩
  ·exact⟨_,F,S,A,H,rfl,rs,rh,h3⟩
  ·refine dr h3 (fun hb h=>?_) (fun hb h=>?_)
   ·have hb:aa<=j:=Nat.le_of_ble_eq_true hb
    obtain⟨x1,F1,S1,A1,H1,h4,r1,r2,h5⟩:=hf _ _ _ _ _ _ rs rh h;obtain⟨x2,F2,S2,A2,H2,h6,h7⟩:=BY hf n r1 r2 h5
    grind[hop,aa]
   grind[iX,hop,aa]
  ·exact⟨_,F,S,A,H,rfl,rs,rh,h3⟩
theorem FO{cf:lG}{ca:CallR}(hc:Hr cf ca)(n:Nat)(s:Stm):XOK (ju cf n s).1 (fun lo=>exec ca lo n s)/\∀t:Nat,XOK ((ju cf n s).2 t) (fun lo S H=>exec ca lo n s (.int .i64 (t:Int)::S) H):=by
 induction s with
 | skip=>exact⟨fun _ _ _ _ _ _ rs rh h=>⟨_,_,_,_,_,rfl,rs,rh,h⟩,fun _=>iG⟩
 | sets l chk=>
  refine⟨fun lo F S A H k rs rh h=>?_,fun _=>iG⟩;obtain⟨vs,G,h1,r1,h2⟩:=rp rs rh l rs h
  grind[vR,exec]
 | hv l chk pc dst o a=>
  refine⟨fun lo F S A H k rs rh h=>?_,fun _=>iG⟩;obtain⟨vs,G,h1,r1,h2⟩:=rp rs rh l rs h;obtain⟨h3,h4⟩:=vR rs rh chk h2;rcases zt rs rh pc h4 with ⟨h5,h6⟩|⟨h5,h6⟩
  ·obtain⟨xs,h7,h8⟩:=ri a rs rh h6
   rw[List.append_nil]at h8;obtain⟨x,A',H',h9,r9,h10⟩:=FQ (cf:=cf) (ca:=ca) hc rh h8;cases dst with
   | none=>exact⟨_,G,_,A',H',by grind[exec],r1,r9,h10⟩
   | some d=>
    obtain⟨F',h11,r11⟩:=r1.set h10
    grind[exec]
  ·cases dst with
   | none=>exact⟨_,G,_,A,H,by grind[exec],r1,rh,h6⟩
   | some d=>
    obtain⟨F',h11,r11⟩:=r1.set h6;exact⟨_,F',_,A,H,by simp only[exec,h1,h3,if_true,h5];rfl,r11,rh,h11⟩
 | dist a b=>
  refine⟨fun lo F S A H k rs rh h=>?_,fun _=>iG⟩;obtain⟨x,h1,h2⟩:=qg rs rh h;obtain⟨y,h3,h4⟩:=qg rs rh h2;have hb:∀z:FV,NJ z=ae (toV z):=by intro z;cases z<;>rfl
  rw[hb,hb]at h4;have:(ae (toV x)=none\/ae (toV x)≠ae (toV y))/\k .normal F A=true:=by
   rcases hx:ae (toV x)with _|i
   ·simp_all
   ·rcases hy:ae (toV y)with _|j
    ·simp_all
    ·rw[hx,hy]at h4
     refine dr h4 (fun _ h=>by cases h) (fun hb h=>⟨.inr ?_,h⟩)
     grind[Nat.ne_of_beq_eq_false]
  grind[exec]
 | seq a b iha ihb=>
  refine⟨fun lo F S A H k rs rh h=>?_,fun _=>iG⟩;obtain⟨x,F1,S1,A1,H1,h1,r1,r2,h2⟩:=iha.1 _ _ _ _ _ _ rs rh (show(ju cf n a).1 lo F A (fun x S H=>cEx x ((ju cf n b).1 lo S H k) (fun i=>k (.exit i) S H) (k .ret S H))=true from h);rcases rG h2 with ⟨rfl,h3⟩|⟨i,rfl,h3⟩|⟨rfl,h3⟩
  ·obtain⟨x2,F2,S2,A2,H2,h4,h5⟩:=ihb.1 _ _ _ _ _ _ r1 r2 h3
   grind[exec]
  all_goals grind[exec]
 | cond c a b iha ihb=>
  refine⟨fun lo F S A H k rs rh h=>?_,fun _=>iG⟩;obtain⟨xs,h1,h2⟩:=ri c rs rh (show fev c F A [] (fun l=>isB l ((ju cf n a).1 lo F A k) ((ju cf n b).1 lo F A k))=true from h);rw[List.append_nil]at h2;rcases AD h2 with ⟨rfl,h3⟩|⟨rfl,h3⟩
  ·obtain⟨x2,F2,S2,A2,H2,h4,h5⟩:=iha.1 _ _ _ _ _ _ rs rh h3
   grind[exec,ev1,kv,toV]
  ·obtain⟨x2,F2,S2,A2,H2,h4,h5⟩:=ihb.1 _ _ _ _ _ _ rs rh h3
   grind[exec,ev1,kv,toV]
 | block i b ih=>
  refine⟨fun lo F S A H k rs rh h=>?_,fun _=>iG⟩;obtain⟨x,F1,S1,A1,H1,h1,r1,r2,h2⟩:=ih.1 _ _ _ _ _ _ rs rh (show(ju cf n b).1 lo F A (fun x S H=>cEx x (k .normal S H) (fun j=>bB (Nat.beq j i) (k .normal S H) (k (.exit j) S H)) (k .ret S H))=true from h);rcases rG h2 with ⟨rfl,h3⟩|⟨j,rfl,h3⟩|⟨rfl,h3⟩
  ·grind[exec]
  ·refine dr h3 (fun hb h=>?_) (fun hb h=>?_)
   all_goals grind[exec,Nat.eq_of_beq_eq_true,Nat.ne_of_beq_eq_false]
  grind[exec]
 | loop b ih=>
  refine⟨fun lo F S A H k rs rh h=>?_,fun _=>iG⟩;obtain⟨x2,F2,S2,A2,H2,h4,h5⟩:=Fl ih.1 n _ _ _ _ _ _ rs rh h
  grind[exec]
 | exit i=>exact⟨fun _ _ _ _ _ _ rs rh h=>⟨_,_,_,_,_,rfl,rs,rh,h⟩,fun _=>iG⟩
 | ret=>exact⟨fun _ _ _ _ _ _ rs rh h=>⟨_,_,_,_,_,rfl,rs,rh,h⟩,fun _=>iG⟩
 | scope b alts ihb iha=>
  refine⟨fun lo F S A H k rs rh h=>?_,fun _=>iG⟩;obtain⟨x,F1,S1,A1,H1,h1,r1,r2,h2⟩:=ihb.1 _ _ _ _ _ _ rs rh (show(ju cf n b).1 lo F A (fun x S H=>Ib (ju cf n alts).2 lo n x S H k)=true from h);obtain⟨x2,F2,S2,A2,H2,h4,h5⟩:=BY (f:=(ju cf n alts).2) (lo:=lo) (g:=exec ca lo n alts) (fun t=>iha.2 t lo) n r1 r2 h2
  grind[exec]
 | alt l s r ihs ihr=>
  refine⟨iG,fun t {lo F S A H k} rs rh h=>?_⟩;have h:xAlt.bX (ju cf n s).1 ((ju cf n r).2 t) (Nat.beq t l) lo F A k=true:=h;cases hb:Nat.beq t l
  ·rw[hb]at h
   obtain⟨x2,F2,S2,A2,H2,h4,h5⟩:=ihr.2 t _ _ _ _ _ _ rs rh h
   grind[exec,Nat.ne_of_beq_eq_false]
  ·rw[hb]at h
   obtain⟨x2,F2,S2,A2,H2,h4,h5⟩:=ihs.1 _ _ _ _ _ _ rs rh h
   grind[exec,Nat.eq_of_beq_eq_true]
theorem BU{F:FS}{S:List Value}{A:FH}{H:Heap}(rs:RS F S)(rh:RH A H):∀(l:List E) {k:List FV->Bool},FY l F A k=true->∃xs,evList S H l=some (toL xs)/\k xs=true
 | [],k,h=>⟨[],rfl,h⟩
 | e::l,k,h=>by
  obtain⟨x,h1,h2⟩:=qg rs rh (show zn e F A (fun v=>FY l F A fun l=>k (v::l))=true from h);obtain⟨xs,h3,h4⟩:=BU rs rh l h2;exact⟨x::xs,by simp only[evList,h1,h3];rfl,h4⟩
theorem KD{l:List FV}{k:FV->Bool}(h:KC l k=true):∃x,aM (toL l)=toV x/\k x=true:=by
 rcases l with _|⟨x,_|⟨y,l⟩⟩
 ·exact⟨_,rfl,h⟩
 ·exact⟨_,rfl,h⟩
 ·exact⟨_,rfl,h⟩
def qw(cp:FuncId->Option CF)(sc:SC)(N:Nat):Prop:=∀f args k d,sc f args k d=true->d=true\/∃v g,k v g=true /\
 ∀m,N<=m->∀(lo:Nat) (H:Heap),lo<=H.length->∃G:Heap,G.length=g/\run cp m lo f (toL args) H=some (.inl (toV v),H++G)
theorem Bq(cp:FuncId->Option CF):qw cp O3 0:=fun _ _ _ _ h=>.inl h
theorem vU{cp:FuncId->Option CF}{sc:SC}{N:Nat}(hsc:qw cp sc N):∀n,Hr (zw cp sc N n) (run cp (N+n))
 | 0=>fun _ _ _ _ _ _ _ h=>by cases h
 | n+1=>fun lo f args A H k rh h=>by
  rcases hsc _ _ _ _ (show sc f args (fun v g=>A.skip lo g fun H=>k v H) _=true from h)with h|⟨v,g,hk,hr⟩;rotate_left
  ·obtain⟨t,rfl,ht⟩:=rh
   obtain⟨h1,h2⟩:=eJ (show bB (Nat.ble lo H.length) (fN (Nat.add H.length g) fun m=>k v (.mk m t)) false=true from hk);rw[fG]at h2;obtain⟨G,hG,hr⟩:=hr (N+(n+1)) byO lo H (Nat.le_of_ble_eq_true h1);refine⟨v,_,H++G,hr,⟨t,by simp_all,fun b=>?_⟩,h2⟩;have:=ht b;by_cases hb:b<H.length
   ·grind
   ·rw[av₀ byO]at this
    rcases hg:t.get b with _|x
    ·exact trivial
    ·rw[hg]at this;cases x<;>exact this.elim
  obtain⟨cf,h1,h2⟩:=qM (show oB (cp f) _=true from h);obtain⟨hn,h3⟩:=eJ h2;have hn:args.length=cf.np:=Nat.eq_of_beq_eq_true hn;obtain⟨t,h4,r4⟩:=T.rep_rep Dh 12 cf.ns h3;obtain⟨t2,h5,r5⟩:=T.setL_rep args r4 h4;have rs:RS t2 (toL args++List.replicate (cf.ns-cf.np) undef):=⟨_,r5,by
   simp_all[toV,Dh,wO,gK]⟩
  cases hk:cf.kind with
  | plain=>
   rw[hk]at h5;obtain⟨x,F1,S1,A1,H1,h6,r6,r7,h7⟩:=(FO (vU hsc n) (N+n) cf.body).1 _ _ _ _ _ _ rs rh h5;have fin:(FY cf.res F1 A1 fun l=>KC l fun v=>k v A1)=true->∃x,(match evList S1 H1 cf.res with
     | some vs=>some (Sum.inl (β:=Value) (aM vs),H1)
     | none=>none)=some (.inl (toV x),H1)/\k x A1=true:=by
    grind[BU,KD]
   grind[rG,run,m7]
  | dfr mid j rst=>simp_all
  | rcv j=>simp_all
theorem Gr:RH (.mk 0 .e) []:=⟨.e,rfl,fun b=>by simp[T.get_e,RO]⟩
def eq1(a b:Value):Bool:=
 match a,b with
 | .bool a,.bool b=>a==b
 | .int k a,.int k' b=>Nat.beq (idI k) (idI k')&&decide (a=b)
 | .slice none l c,.slice none l' c'=>Nat.beq l l'&&Nat.beq c c'
 | .slice (some ⟨b,o,none⟩) l c,.slice (some ⟨b',o',none⟩) l' c'=>Nat.beq b b'&&Nat.beq o o'&&Nat.beq l l'&&Nat.beq c c'
 | .slice (some ⟨b,o,some z⟩) l c,.slice (some ⟨b',o',some z'⟩) l' c'=>Nat.beq b b'&&Nat.beq o o'&&Nat.beq l l'&&Nat.beq c c'&&Nat.beq z z'
 | _,_=>false
theorem FJ{a b:Value}(h:eq1 a b=true):a=b:=by
 unfold eq1 at h;split at h
 ·rw[eq_of_beq h]
 ·simp only[ac₀,af₀]at h;rw[id_eq h.1,h.2]
 ·simp only[ac₀]at h;rw[Nat.eq_of_beq_eq_true h.1,Nat.eq_of_beq_eq_true h.2]
 ·simp only[ac₀]at h;rw[Nat.eq_of_beq_eq_true h.1.1.1,Nat.eq_of_beq_eq_true h.1.1.2,Nat.eq_of_beq_eq_true h.1.2,Nat.eq_of_beq_eq_true h.2]
 ·simp only[ac₀]at h;rw[Nat.eq_of_beq_eq_true h.1.1.1.1,Nat.eq_of_beq_eq_true h.1.1.1.2,Nat.eq_of_beq_eq_true h.1.1.2,Nat.eq_of_beq_eq_true h.1.2,Nat.eq_of_beq_eq_true h.2]
 ·cases h
def eqL(eq:Value->Value->Bool):List Value->List Value->Bool
 | [],[]=>true
 | a::l,b::m=>eq a b&&eqL eq l m
 | _,_=>false
theorem zi{eq:Value->Value->Bool}(he:∀{a b},eq a b=true->a=b):∀{l m:List Value},eqL eq l m=true->l=m
 | [],[],_=>rfl
 | a::l,b::m,h=>by
  simp only[eqL,ac₀]at h;rw[he h.1,zi he h.2]
 | [],_::_,h=>by cases h
 | _::_,[],h=>by cases h
def eq2(a b:Value):Bool:=match a,b with
 | .agg a,.agg b=>eqL eq1 a.toList b.toList
 | a,b=>eq1 a b
theorem FK{a b:Value}(h:eq2 a b=true):a=b:=by
 unfold eq2 at h;split at h
 ·rw[Array.toList_inj.1 (zi FJ h)]
 ·exact FJ h
def eq3(a b:Value):Bool:=match a,b with
 | .tuple a,.tuple b=>eqL eq2 a.toList b.toList
 | a,b=>eq2 a b
theorem rV{a b:Value}(h:eq3 a b=true):a=b:=by
 unfold eq3 at h;split at h
 ·rw[Array.toList_inj.1 (zi FK h)]
 ·exact FK h
def GK(k:Mv)(v:Value):Value:=match v with
 | .slice (some ⟨b,o,s⟩) l c=>.slice (some ⟨k.f b,o,s⟩) l c
 | .pointer (some ⟨b,o,s⟩)=>.pointer (some ⟨k.f b,o,s⟩)
 | v=>v
def GL(k:Mv)(v:Value):Value:=match v with
 | .agg a=>.agg (a.toList.map (GK k)).toArray
 | v=>GK k v
def J2(k:Mv)(v:Value):Value:=match v with
 | .tuple a=>.tuple (a.toList.map (GL k)).toArray
 | v=>GL k v
theorem vh{k:Mv}{g:Value->Value}{eq:Value->Value->Bool}(hg:∀{v v':Value},eq v v=true->Sh k v v'->v'=g v):∀{l l':List Value},eqL eq l l=true->LSh k l l'->l'=l.map g
 | [],l',_,s=>by rw[s.of_nil];rfl
 | v::l,l',h,s=>by
  simp only[eqL,ac₀]at h;obtain⟨y,r,rfl,h1,h2⟩:=s.of_cons;rw[hg h.1 h1,vh hg h.2 h2];rfl
theorem HH{k:Mv}{v v':Value}(h:eq1 v v=true)(s:Sh k v v'):v'=GK k v:=by
 cases s<;>first|rfl|(simp[eq1]at h)
theorem HI{k:Mv}{v v':Value}(h:eq2 v v=true)(s:Sh k v v'):v'=GL k v:=by
 cases s
 case agg a a' ha ra=>
  have:=vh (k:=k) (eq:=eq1) (g:=GK k) HH (l:=a.toList) (l':=a'.toList) h (LSh.arr.2 ⟨ha,ra⟩);show Value.agg a'=.agg (a.toList.map (GK k)).toArray;rw[<-this]
 case tuple=>simp[eq2,eq1]at h
 all_goals exact HH (k:=k) (by simpa only[eq2]using h) (by constructor<;>assumption)
theorem HJ{k:Mv}{v v':Value}(h:eq3 v v=true)(s:Sh k v v'):v'=J2 k v:=by
 cases s
 case tuple a a' ha ra=>
  have:=vh (k:=k) (eq:=eq2) (g:=GL k) HI (l:=a.toList) (l':=a'.toList) h (LSh.arr.2 ⟨ha,ra⟩);show Value.tuple a'=.tuple (a.toList.map (GL k)).toArray;rw[<-this]
 all_goals exact HI (k:=k) (by simpa only[eq3]using h) (by constructor<;>assumption)
def Kb(v0:Value)(v:FV)(_:FH):Bool:=eq3 (toV v) v0
theorem zl{k:Mv}{H H' H0:Heap}(hn:k.n=H.length)(h:HSh k H0 H')(hp:∀i,i<H.length->H'[i]?=H[i]?):Ext H H':=⟨by have:=h.len;omega,fun i hi=>by unfold Heap.get;rw[hp i hi]⟩
theorem FM{cp:FuncId->Option CF}{sc:SC}{N:Nat}(hp:∀f cf,cp f=some cf->aL cf=true)(hsc:qw cp sc N){n f:Nat}{args:List FV}{v0:Value}(h:zw cp sc N n 0 f args (.mk 0 .e) (Kb v0)=true)(ha:(toL args).all fX=true)(hv:eq3 v0 v0=true)
  {lo:Nat} {H:Heap} (hlo:lo<=H.length):Ev cp lo f (toL args) H (fun v H'=>Ext H H'/\v=J2 (mv0 H.length) v0):=by
 obtain⟨x,A',H1,h1,r1,h2⟩:=vU hsc n _ _ _ _ _ _ Gr h;have h2:toV x=v0:=rV h2;rw[h2]at h1;exact oI hp ha (N+n) h1 hlo fun v' H' hs hh hpre=>⟨zl rfl hh hpre,HJ hv hs⟩
theorem D9{cp:FuncId->Option CF}(hp:∀f cf,cp f=some cf->aL cf=true){f:FuncId}{args:List Value}(ha:args.all fX=true){v:Value}(hv:eq3 v v=true)(hm:∀n,J2 (mv0 n) v=v){H0:Heap}{n:Nat}(h:run cp n 0 f args []=some (.inl v,H0)) :
  ∀m,n<=m->∀(lo:Nat) (H:Heap),lo<=H.length->∃G:Heap,G.length=H0.length/\run cp m lo f args H=some (.inl v,H++G):=by
 intro m hmn lo H hlo;have hargs:LSh (mv0 H.length) args args:=by
  refine⟨rfl,fun j x y hx hy=>?_⟩;rw[hx]at hy;cases hy;exact gU (List.all_eq_true.1 ha _ (List.mem_of_getElem? hx))
 obtain⟨r',B',h1,h2,h3⟩:=pg hp n 0 lo f args args [] H _ H0 ⟨Nat.le_refl _,by simp only[mv0];omega⟩ hargs ⟨by simp[mv0],fun i c hc=>by simp[Heap.get]at hc⟩ h;have hl:=h3.sh.newf;rw[MC]at hl;cases r' with
 | inr u=>exact h2.elim
 | inl u=>
  have e:u=v:=(HJ hv h2).trans (hm _);subst e;refine⟨B'.drop H.length,by rw[List.length_drop];omega,?_⟩;have hB:B'=H++B'.drop H.length:=by
   refine List.ext_getElem? fun i=>?_;by_cases hi:i<H.length
   ·rw[ax₀ hi];exact h3.pre i hi
   ·rw[aw₀ byO,List.getElem?_drop,show H.length+(i-H.length)=i by omega]
  rw[<-hB];exact pf hmn _ _ _ _ _ h1
noncomputable def Ar(v0:Value)(g:Nat)(v:FV)(A:FH):Bool:=bB (eq3 (toV v) v0) (Nat.beq A.size g) false
theorem nM{cp:FuncId->Option CF}{sc:SC}{N:Nat}(hp:∀f cf,cp f=some cf->aL cf=true)(hsc:qw cp sc N){n f:Nat}{args:List FV}{v0:Value}{g:Nat}(h:zw cp sc N n 0 f args (.mk 0 .e) (Ar v0 g)=true)(ha:(toL args).all fX=true)(hv:eq3 v0 v0=true)(hm:∀n,J2 (mv0 n) v0=v0) :
  ∀m,N+n<=m->∀(lo:Nat) (H:Heap),lo<=H.length->∃G:Heap,G.length=g/\run cp m lo f (toL args) H=some (.inl v0,H++G):=by
 obtain⟨x,A',H1,h1,r1,h2⟩:=vU hsc n _ _ _ _ _ _ Gr h;obtain⟨h3,h4⟩:=eJ h2;have h3:toV x=v0:=rV h3;rw[h3]at h1;have hg:H1.length=g:=by rw[<-r1.size];exact Nat.eq_of_beq_eq_true h4
 have:=D9 hp ha hv hm h1;rw[hg]at this;exact this
noncomputable def scF(sc:SC)(f0 g:Nat)(c:Value)(v:FV):SC:=fun f args k d=>bB (Nat.beq f f0) (l1 args (fun x=>bB (eq3 (toV x) c) (k v g) d) d) (sc f args k d)
noncomputable def scM(sc:SC)(f0 g K:Nat)(c c2:Value)(v:Nat->Nat):SC:=fun f args k d=>bB (Nat.beq f f0)
 (l3' args (fun x y z=>bB (eq3 (toV x) c) (cI y (fun ka a=>bB (Nat.beq (idI ka) 3) (bB (Nat.ble a K) (bB (eq3 (toV z) c2) (fN (v a) fun n=>k (.o (.tuple #[.int .i64 (.ofNat n),.int .i64 0])) g) d) d) d) d) d) d) (sc f args k d)
where l3' {α β:Type} (l:List β) (f:β->β->β->α) (d:α):α:=List.casesOn l d fun x r=>List.casesOn r d fun y r=>List.casesOn r d fun z r=>List.casesOn r (f x y z) fun _ _=>d
def K9(cp:FuncId->Option CF)(N f:Nat)(args:List Value)(v:Value)(g:Nat):Prop:=∀m,N<=m->∀(lo:Nat) (H:Heap),lo<=H.length->∃G:Heap,G.length=g/\run cp m lo f args H=some (.inl v,H++G)
theorem UT{k:IntKind}(h:Nat.beq (idI k) 3=true):k=.i64:=by cases k<;>first|rfl|cases h
theorem bBs{b x y:Bool}(h:bB b x y=true):b=true/\x=true\/y=true:=by
 cases b
 ·exact .inr h
 ·exact .inl ⟨rfl,h⟩
theorem HB{cp:FuncId->Option CF}{sc:SC}{N N' f0 g:Nat}{c:Value}{v:FV}(h:qw cp sc N)(hr:K9 cp N' f0 [c] (toV v) g):qw cp (scF sc f0 g c v) (max N N'):=by
 intro f args k d hk;rcases hf:Nat.beq f f0 with _|_
 ·unfold scF at hk;rw[hf]at hk
  rcases h f args k d hk with h1|⟨v',g',h1,h2⟩
  ·exact .inl h1
  ·exact .inr ⟨v',g',h1,fun m hm=>h2 m byO⟩
 ·unfold scF at hk;rw[hf]at hk
  have e:=Nat.eq_of_beq_eq_true hf;subst e
  match args,hk with
  | [],hk=>exact .inl hk
  | x::y::r,hk=>exact .inl hk
  | [x],hk=>
   rcases bBs (show bB (eq3 (toV x) c) (k v g) d=true from hk)with ⟨h0,h1⟩|h1
   ·have hx:toV x=c:=rV h0
    refine .inr ⟨_,_,h1,fun m hm lo H hlo=>?_⟩;show ∃G:Heap,G.length=g/\run cp m lo f [toV x] H=_;rw[hx];exact hr m byO lo H hlo
   ·exact .inl h1
theorem PW{cp:FuncId->Option CF}{sc:SC}{N N' f0 g K:Nat}{c c2:Value}{v:Nat->Nat}(h:qw cp sc N)(hr:∀a,a<=K->K9 cp N' f0 [c,.int .i64 a,c2] (.tuple #[.int .i64 (v a:Nat),.int .i64 0]) g):qw cp (scM sc f0 g K c c2 v) (max N N'):=by
 intro f args k d hk;rcases hf:Nat.beq f f0 with _|_
 ·unfold scM at hk;rw[hf]at hk
  rcases h f args k d hk with h1|⟨v',g',h1,h2⟩
  ·exact .inl h1
  ·exact .inr ⟨v',g',h1,fun m hm=>h2 m byO⟩
 ·unfold scM at hk;rw[hf]at hk
  have e:=Nat.eq_of_beq_eq_true hf;subst e
  match args,hk with
  | [],hk=>exact .inl hk
  | [x],hk=>exact .inl hk
  | [x,y],hk=>exact .inl hk
  | x::y::z::w::r,hk=>exact .inl hk
  | [x,y,z],hk=>
   rcases bBs (show bB (eq3 (toV x) c) (cI y (fun ka a=>bB (Nat.beq (idI ka) 3) (bB (Nat.ble a K) (bB (eq3 (toV z) c2) (fN (v a) fun n=>k (.o (.tuple #[.int .i64 (.ofNat n),.int .i64 0])) g) d) d) d) d) d=true from hk)with ⟨h0,h1⟩|h1
   ·cases y with
    | i ka a=>
     rcases bBs (show bB (Nat.beq (idI ka) 3) (bB (Nat.ble a K) (bB (eq3 (toV z) c2) (fN (v a) fun n=>k (.o (.tuple #[.int .i64 (.ofNat n),.int .i64 0])) g) d) d) d=true from h1)with ⟨h2,h3⟩|h3
     ·rcases bBs h3 with ⟨h4,h5⟩|h5
      ·rcases bBs h5 with ⟨h6,h7⟩|h7
       ·rw[fG]at h7
        have hx:toV x=c:=rV h0;have hz:toV z=c2:=rV h6;have hka:=UT h2;subst hka;refine .inr ⟨_,_,h7,fun m hm lo H hlo=>?_⟩;show ∃G:Heap,G.length=g/\run cp m lo f [toV x,.int .i64 a,toV z] H=_;rw[hx,hz];exact hr a (Nat.le_of_ble_eq_true h4) m byO lo H hlo
       ·exact .inl h7
      ·exact .inl h5
     ·exact .inl h3
    | _=>exact .inl h1
   ·exact .inl h1
end Go.Abs
namespace Go.Proofs.YtmnlgdpdgjbfgaaGreat
open Go.Abs
variable{H:Heap}{lo:Nat}{i:Nat}
set_option maxHeartbeats 0
def zm:Value:=.agg #[.int .i64 2,.int .i64 256,.int .i64 301]
theorem UU:zw cp O3 0 1000 0 150 [.i .i64 301] (.mk 0 .e) (Ar (.bool true) 0)=true:=by kernel_rfl
noncomputable def scA:SC:=scF O3 150 0 (.int .i64 301) (.b true)
theorem Gz:qw cp scA 1000:=HB (N':=1000) (c:=.int .i64 301) (v:=.b true) (Bq cp) (nM mT (Bq cp) UU rfl rfl fun _=>rfl)
theorem US:zw cp scA 1000 1000 0 161 [.o zm] (.mk 0 .e) (Ar (.int .i64 2) 257)=true:=by kernel_rfl
noncomputable def scB:SC:=scF scA 161 257 zm (.i .i64 2)
theorem HA:qw cp scB 2000:=HB (N':=2000) (c:=zm) (v:=.i .i64 2) Gz (nM mT Gz US rfl rfl fun _=>rfl)
def Ey(a:Nat):Nat:=if Nat.ble a 127 then 2*a else Nat.xor (2*a) 301
theorem O0:((List.range 256).all fun a=>zw cp scB 2000 300 0 115 [.o zm,.i .i64 a,.i .i64 2] (.mk 0 .e) (Ar (.tuple #[.int .i64 (.ofNat (Ey a)),.int .i64 0]) 5))=true:=by kernel_rfl
theorem Cp(a:Nat):eq3 (.tuple #[.int .i64 (.ofNat a),.int .i64 0]) (.tuple #[.int .i64 (.ofNat a),.int .i64 0])=true:=by
 unfold eq3;simp[eqL,eq2,eq1]
noncomputable def scC:SC:=scM scB 115 5 255 zm (.int .i64 2) Ey
theorem PV:qw cp scC 2300:=PW (N':=2300) (c:=zm) (c2:=.int .i64 2) HA fun a ha=>nM (args:=[.o zm,.i .i64 a,.i .i64 2]) mT HA (List.all_eq_true.1 O0 a (List.mem_range.2 byO)) rfl (Cp _) fun _=>rfl
set_option maxHeartbeats 0 in
theorem exR:zw cp scC 2300 100000 0 12 [] (.mk 0 .e) (Kb (.bool true))=true:=by kernel_rfl
theorem BO(hlo:lo<=H.length):Ev cp lo 12 [] H (fun v H'=>Ext H H'/\v=.bool true):=FM (args:=[]) mT PV exR rfl rfl hlo
theorem yg:∀f cf,cp f=some cf->aL cf=true:=mT
structure Sz where
 r:Int
 c:Int
 rr:Int
 rc:Int
 d:Int
 k:Int
 b:Int
 deriving DecidableEq
def Sz.cells(s:Sz):List Value:=[.int .i64 s.r,.int .i64 s.c,.int .i64 s.rr,.int .i64 s.rc,.int .i64 s.d,.int .i64 s.k,.int .i64 s.b]
def Sz.zero:Sz:=⟨0,0,0,0,0,0,0⟩
def Sz.val(s:Sz):Value:=.agg #[.int .i64 s.r,.int .i64 s.c,.int .i64 s.rr,.int .i64 s.rc,.int .i64 s.d,.int .i64 s.k,.int .i64 s.b]
def szs:List Sz:=[⟨10,10,8,8,3,5,1⟩,⟨12,12,10,10,5,7,1⟩,⟨14,14,12,12,8,10,1⟩,⟨16,16,14,14,12,12,1⟩,⟨18,18,16,16,18,14,1⟩,⟨20,20,18,18,22,18,1⟩,⟨22,22,20,20,30,20,1⟩,⟨24,24,22,22,36,24,1⟩,⟨26,26,24,24,44,28,1⟩,⟨32,32,14,14,62,36,1⟩,⟨36,36,16,16,86,42,1⟩,⟨40,40,18,18,114,48,1⟩,⟨44,44,20,20,144,56,1⟩,⟨48,48,22,22,174,68,1⟩,⟨52,52,24,24,204,84,2⟩,⟨64,64,14,14,280,112,2⟩,⟨72,72,16,16,368,144,4⟩,⟨80,80,18,18,456,192,4⟩,⟨88,88,20,20,576,224,4⟩,⟨96,96,22,22,696,272,4⟩,⟨104,104,24,24,816,336,6⟩,⟨120,120,18,18,1050,408,6⟩,⟨132,132,20,20,1304,496,8⟩,⟨144,144,22,22,1558,620,10⟩,⟨8,18,6,16,5,7,1⟩,⟨8,32,6,14,10,11,1⟩,⟨12,26,10,24,16,14,1⟩,⟨12,36,10,16,22,18,1⟩,⟨16,36,14,16,32,24,1⟩,⟨16,48,14,22,49,28,1⟩]
def szCells:List Value:=szs.flatMap Sz.cells
set_option maxRecDepth 100000 in
theorem UE:((run cp 40).ret 0 55 [] []).map (fun r=>(r.1,r.2.get 1))=some (.slice (some ⟨1,0,none⟩) 30 30,some szCells):=by kernel_rfl
set_option maxRecDepth 100000 in
theorem UF:((run cp 40).ret 0 26 [] []).map (fun r=>(r.1,r.2.get 120))=some (.slice (some ⟨120,0,some 7⟩) 30 30,some szCells):=by kernel_rfl
theorem CO:szCells.all bN=true:=by kernel_rfl
theorem wb(hlo:lo<=H.length):Ev cp lo 55 [] H (fun v H'=>∃j,H.length<=j/\v=.slice (some ⟨j,0,none⟩) 30 30/\H'.get j=some szCells/\Ext H H'):=
 kz yg rfl UE CO hlo
theorem wc(hlo:lo<=H.length):Ev cp lo 26 [] H (fun v H'=>∃j,H.length<=j/\v=.slice (some ⟨j,0,some 7⟩) 30 30/\H'.get j=some szCells/\Ext H H'):=
 kz yg rfl UF CO hlo
def bO(i:Nat):Sz:=szs.getD i Sz.zero
theorem gI:szs.length=30:=rfl
theorem fh:szCells.length=210:=by kernel_rfl
theorem E1(l:List Sz):∀(i:Nat),i<l.length->((l.flatMap Sz.cells).drop (i*7)).take 7=(l.getD i Sz.zero).cells:=by
 induction l with
 | nil=>intro i h;simp at h
 | cons s l ih=>
  intro i h;cases i with
  | zero=>simp[Sz.cells]
  | succ i=>
   have:=ih i (by simpa using h);rw[Nat.succ_mul,List.flatMap_cons,List.drop_append];simp only[Sz.cells,ak₀,an₀];rw[show i*7+7-7=i*7 by omega];simpa[Sz.cells]using this
theorem gW(h:i<30):(szCells.drop (i*7)).take 7=(bO i).cells:=E1 szs i (by rw[gI];exact h)
theorem gJ(h:i<30):szs.take (i+1)=szs.take i++[bO i]:=by
 rw[List.take_add_one];congr 1;unfold bO;rw[bc₀ (by rw[gI];exact h)];simp[List.getD,bc₀ (show i<szs.length by rw[gI];exact h)]
def cm(n:Int)(sq:Bool)(best s:Sz):Sz:=
 if (sq=true/\s.r≠s.c)\/s.d<n then best else if best.d=0\/s.d<best.d then s else best
def cJ(n:Int)(sq:Bool)(i:Nat):Sz:=(szs.take i).foldl (cm n sq) Sz.zero
theorem iT{n:Int}{sq:Bool}(h:i<30):cJ n sq (i+1)=cm n sq (cJ n sq i) (bO i):=by
 unfold cJ;rw[gJ h,List.foldl_append];rfl
def tN(n:Int)(sq:Bool):Sz×Int:=if n<1 then(Sz.zero,3) else if 1558<n then(Sz.zero,16) else(cJ n sq 30,0)
def fI{α:Type}(x:Int)(k:Int->α):α:=match x with
 | .ofNat 0=>k 0
 | .ofNat (n+1)=>k (.ofNat (n+1))
 | .negSucc n=>k (.negSucc n)
theorem lB{α:Type}(x:Int)(k:Int->α):fI x k=k x:=by
 unfold fI;split<;>rfl
def fN{α:Type}(x:Nat)(k:Nat->α):α:=match x with
 | 0=>k 0
 | n+1=>k (n+1)
theorem fG{α:Type}(x:Nat)(k:Nat->α):fN x k=k x:=by
 unfold fN;split<;>rfl
structure Ops (σ:Type) where
 asg:σ->Int->Int->Int->Option σ
 free:σ->Int->Int->Bool
 bump:σ->σ
def goG{σ:Type}(O:Ops σ):σ->List (Int×Int)->Int->Option σ
 | s,[],_=>some s
 | s,p::ps,bit=>match O.asg s p.1 p.2 bit with
  | some s'=>goG O s' ps (bit+1)
  | none=>none
def jU{σ:Type}(O:Ops σ)(s:σ)(l:List (Int×Int)):Option σ:=match goG O s l 0 with
 | some s'=>some (O.bump s')
 | none=>none
def pl(r c:Int):List (Int×Int):=[(r-2,c-2),(r-2,c-1),(r-1,c-2),(r-1,c-1),(r-1,c),(r,c-2),(r,c-1),(r,c)]
def kF{σ:Type}(O:Ops σ)(s:σ)(r c:Int):Option σ:=if O.free s r c=true then jU O s (pl r c) else some s
def c1(n w:Int):List (Int×Int):=[(n-1,0),(n-1,1),(n-1,2),(0,w-2),(0,w-1),(1,w-1),(2,w-1),(3,w-1)]
def c2(n w:Int):List (Int×Int):=[(n-3,0),(n-2,0),(n-1,0),(0,w-4),(0,w-3),(0,w-2),(0,w-1),(1,w-1)]
def c3(n w:Int):List (Int×Int):=[(n-3,0),(n-2,0),(n-1,0),(0,w-2),(0,w-1),(1,w-1),(2,w-1),(3,w-1)]
def c4(n w:Int):List (Int×Int):=[(n-1,0),(n-1,w-1),(0,w-3),(0,w-2),(0,w-1),(1,w-3),(1,w-2),(1,w-1)]
def kV{σ:Type}(O:Ops σ)(b:Bool)(s:σ)(l:List (Int×Int)):Option σ:=if b=true then jU O s l else some s
def k1(R r c:Int):Bool:=decide (r=R)&&decide (c=0)
def k2(R C r c:Int):Bool:=decide (r=R-2)&&decide (c=0)&&decide (C.tmod 4≠0)
def k3(R C r c:Int):Bool:=decide (r=R-2)&&decide (c=0)&&decide (C.tmod 8=4)
def k4(R C r c:Int):Bool:=decide (r=R+4)&&decide (c=2)&&decide (C.tmod 8=0)
def fF{σ:Type}(O:Ops σ)(R C:Int)(s:σ)(r c:Int):Option σ:=
 match kV O (k1 R r c) s (c1 R C)with
 | none=>none
 | some s=>match kV O (k2 R C r c) s (c2 R C)with
  | none=>none
  | some s=>match kV O (k3 R C r c) s (c3 R C)with
   | none=>none
   | some s=>kV O (k4 R C r c) s (c4 R C)
def inB(r c:Int):Bool:=decide (-4000<=r)&&decide (r<=4000)&&decide (-4000<=c)&&decide (c<=4000)
def upG{σ:Type}(O:Ops σ)(C:Int):Nat->σ->Int->Int->Option (σ×Int×Int)
 | 0,_,_,_=>none
 | k+1,s,r,c=>if inB r c=true then match kF O s r c with
  | none=>none
  | some s=>fI (r-2) fun r=>fI (c+2) fun c=>if 0<=r/\c<C then upG O C k s r c else some (s,r,c)
  else none
def gd{σ:Type}(O:Ops σ)(R:Int):Nat->σ->Int->Int->Option (σ×Int×Int)
 | 0,_,_,_=>none
 | k+1,s,r,c=>if inB r c=true then match kF O s r c with
  | none=>none
  | some s=>fI (r+2) fun r=>fI (c-2) fun c=>if r<R/\0<=c then gd O R k s r c else some (s,r,c)
  else none
def pW{σ:Type}(O:Ops σ)(R C:Int):Nat->σ->Int->Int->Option σ
 | 0,_,_,_=>none
 | k+1,s,r,c=>if inB r c=true then match fF O R C s r c with
  | none=>none
  | some s=>match upG O C 200 s r c with
   | none=>none
   | some (s,r,c)=>fI (r+1) fun r=>fI (c+3) fun c=>match gd O R 200 s r c with
    | none=>none
    | some (s,r,c)=>fI (r+3) fun r=>fI (c+1) fun c=>if r<R\/c<C then pW O R C k s r c else some s
  else none
section refine
variable {σ τ:Type}{O:Ops σ}{O':Ops τ}{Rel:σ->τ->Prop}
structure Refines (O:Ops σ)(O':Ops τ)(Rel:σ->τ->Prop):Prop where
 asg:∀s t r c b s',Rel s t->O.asg s r c b=some s'->∃t',O'.asg t r c b=some t'/\Rel s' t'
 free:∀s t r c,Rel s t->O.free s r c=O'.free t r c
 bump:∀s t,Rel s t->Rel (O.bump s) (O'.bump t)
variable (h:Refines O O' Rel)
include h
theorem Refines.go:∀(l:List (Int×Int)) (s:σ) (t:τ) (b:Int) (s':σ),Rel s t->goG O s l b=some s'->∃t',goG O' t l b=some t'/\Rel s' t'
 | [],s,t,b,s',hr,e=>by grind[goG]
 | p::ps,s,t,b,s',hr,e=>by
  simp only[goG]at e ⊢;split at e
  ·rename_i s1 h1
   obtain⟨t1,h2,hr1⟩:=h.asg _ _ _ _ _ _ hr h1;rw[h2];exact Refines.go ps s1 t1 (b+1) s' hr1 e
  ·simp at e
theorem Refines.each(l:List (Int×Int))(s:σ)(t:τ)(s':σ)(hr:Rel s t)(e:jU O s l=some s'):∃t',jU O' t l=some t'/\Rel s' t':=by
 unfold jU at e ⊢;split at e
 ·rename_i s1 h1
  obtain⟨t1,h2,hr1⟩:=h.go _ _ _ _ _ hr h1
  grind[bump]
 ·simp at e
theorem Refines.eif(b:Bool)(l:List (Int×Int))(s:σ)(t:τ)(s':σ)(hr:Rel s t)(e:kV O b s l=some s'):∃t',kV O' b t l=some t'/\Rel s' t':=by
 unfold kV at e ⊢;cases b with
 | true=>exact h.each l s t s' hr e
 | false=>simp_all
theorem Refines.pif(r c:Int)(s:σ)(t:τ)(s':σ)(hr:Rel s t)(e:kF O s r c=some s'):∃t',kF O' t r c=some t'/\Rel s' t':=by
 unfold kF at e ⊢;rw[<-h.free s t r c hr];cases hf:O.free s r c with
 | true=>rw[hf]at e;exact h.each _ s t s' hr e
 | false=>simp_all
theorem Refines.corners(R C r c:Int)(s:σ)(t:τ)(s':σ)(hr:Rel s t)(e:fF O R C s r c=some s'):∃t',fF O' R C t r c=some t'/\Rel s' t':=by
 unfold fF at e ⊢;split at e
 ·simp at e
 ·rename_i s1 e1
  obtain⟨t1,f1,r1⟩:=h.eif _ _ _ _ _ hr e1;split at e
  ·simp at e
  ·rename_i s2 e2
   obtain⟨t2,f2,r2⟩:=h.eif _ _ _ _ _ r1 e2;split at e
   ·simp at e
   ·rename_i s3 e3
    obtain⟨t3,f3,r3⟩:=h.eif _ _ _ _ _ r2 e3;obtain⟨t4,f4,r4⟩:=h.eif _ _ _ _ _ r3 e
    simp_all
theorem Refines.up(C:Int):∀(k:Nat) (s:σ) (t:τ) (r c:Int) (s':σ) (r' c':Int),Rel s t->upG O C k s r c=some (s',r',c')->∃t',upG O' C k t r c=some (t',r',c')/\Rel s' t'
 | 0,_,_,_,_,_,_,_,_,e=>by grind[upG]
 | k+1,s,t,r,c,s',r',c',hr,e=>by
  simp only[upG,lB]at e ⊢;split at e
  ·rename_i hb
   rw[if_pos hb];split at e
   ·simp at e
   ·rename_i s1 e1
    obtain⟨t1,f1,r1⟩:=h.pif _ _ _ _ _ hr e1;simp only[f1];split at e
    ·rename_i hc;rw[if_pos hc];exact Refines.up C k s1 t1 _ _ _ _ _ r1 e
    grind
  ·simp at e
theorem Refines.down(R:Int):∀(k:Nat) (s:σ) (t:τ) (r c:Int) (s':σ) (r' c':Int),Rel s t->gd O R k s r c=some (s',r',c')->∃t',gd O' R k t r c=some (t',r',c')/\Rel s' t'
 | 0,_,_,_,_,_,_,_,_,e=>by grind[gd]
 | k+1,s,t,r,c,s',r',c',hr,e=>by
  simp only[gd,lB]at e ⊢;split at e
  ·rename_i hb
   rw[if_pos hb];split at e
   ·simp at e
   ·rename_i s1 e1
    obtain⟨t1,f1,r1⟩:=h.pif _ _ _ _ _ hr e1;simp only[f1];split at e
    ·rename_i hc;rw[if_pos hc];exact Refines.down R k s1 t1 _ _ _ _ _ r1 e
    grind
  ·simp at e
theorem Refines.out(R C:Int):∀(k:Nat) (s:σ) (t:τ) (r c:Int) (s':σ),Rel s t->pW O R C k s r c=some s'->∃t',pW O' R C k t r c=some t'/\Rel s' t'
 | 0,_,_,_,_,_,_,e=>by grind[pW]
 | k+1,s,t,r,c,s',hr,e=>by
  simp only[pW,lB]at e ⊢;split at e
  ·rename_i hb
   rw[if_pos hb];split at e
   ·simp at e
   ·rename_i s1 e1
    obtain⟨t1,f1,r1⟩:=h.corners _ _ _ _ _ _ _ hr e1;simp only[f1];split at e
    ·simp at e
    ·rename_i s2 ra ca e2
     obtain⟨t2,f2,r2⟩:=h.up _ _ _ _ _ _ _ _ _ r1 e2;simp only[f2];split at e
     ·simp at e
     ·rename_i s3 rb cb e3
      obtain⟨t3,f3,r3⟩:=h.down _ _ _ _ _ _ _ _ _ r2 e3;simp only[f3];split at e
      ·rename_i hc;rw[if_pos hc];exact Refines.out R C k s3 t3 _ _ _ r3 e
      grind
  ·simp at e
end refine
def rowOf(R C r c:Int):Int:=let r1:=if r<0 then r+R else r;let c1:=if r<0 then c+(4-(R+4).tmod 8) else c;if c1<0 then r1+(4-(C+4).tmod 8) else r1
def Lo(R C r c:Int):Int:=let c1:=if r<0 then c+(4-(R+4).tmod 8) else c;if c1<0 then c1+C else c1
def iE(R C r c:Int):Int:=rowOf R C r c*C+Lo R C r c
structure G where
 next:Int
 cells:List Int
def PA(R C r c:Int)(n:Nat):Bool:=inB r c&&decide (0<=iE R C r c)&&decide (iE R C r c<n)
def a0(R C:Int):Ops G where
 asg:=fun g r c b=>if PA R C r c g.cells.length=true/\0<=g.next/\g.next<=100000 then some ⟨g.next,g.cells.set (iE R C r c).toNat (8*g.next+b)⟩ else none
 free:=fun g r c=>decide (0<=r)&&decide (r<R)&&decide (0<=c)&&decide (c<C)&&decide (g.cells.getD (r*C+c).toNat 0<0)
 bump:=fun g=>⟨g.next+1,g.cells⟩
structure M where
 bits:Nat
 next:Nat
 k:Nat
def okI(r c i:Int)(n:Nat):Bool:=inB r c&&decide (0<=i)&&decide (i<n)
def Nj{α:Type}(R C r c:Int)(k:Int->α):α:=
 fI (if r<0 then r+R else r) fun r1=>fI (if r<0 then c+(4-(R+4).tmod 8) else c) fun c1=>fI (if c1<0 then r1+(4-(C+4).tmod 8) else r1) fun r2=>fI (if c1<0 then c1+C else c1) fun c2=>fI (r2*C+c2) k
theorem Io{α:Type}(R C r c:Int)(k:Int->α):Nj R C r c k=k (iE R C r c):=by grind[Nj,lB,iE,rowOf,Lo]
def rB(R C:Int)(n:Nat):Ops M where
 asg:=fun m r c b=>Nj R C r c fun i=>if okI r c i n=true/\m.next<=100000/\b=(m.k:Int)-8*m.next/\m.bits.testBit i.toNat=false then
   fN (m.bits ||| 2^i.toNat) fun b=>fN (m.k+1) fun k=>some ⟨b,m.next,k⟩ else none
 free:=fun m r c=>decide (0<=r)&&(decide (r<R)&&(decide (0<=c)&&(decide (c<C)&&!(m.bits.testBit (r*C+c).toNat))))
 bump:=fun m=>fN (m.next+1) fun n=>⟨m.bits,n,m.k⟩
structure MG (n:Nat)(m:M)(g:G):Prop where
 next:g.next=m.next
 len:g.cells.length=n
 bit:∀i,i<n->(m.bits.testBit i=true↔0<=g.cells.getD i (-1))
 neg:∀i,i<n->g.cells.getD i (-1)<0->g.cells.getD i (-1)=-1
 lt:∀i,i<n->g.cells.getD i (-1)<m.k
 inj:∀i j,i<n->j<n->0<=g.cells.getD i (-1)->g.cells.getD i (-1)=g.cells.getD j (-1)->i=j
 sur:∀v:Nat,v<m.k->∃i,i<n/\g.cells.getD i (-1)=v
 cnt:g.cells.countP (fun x=>decide (0<=x))=m.k
theorem xp{l:List Int}{i j:Nat}{v d:Int}(h:i<l.length):(l.set i v).getD j d=if j=i then v else l.getD j d:=by
 grind
theorem vZ{R C r c:Int}(h0:0<=r)(h1:r<R)(h2:0<=c)(h3:c<C):0<=r*C+c/\r*C+c<R*C:=by
 have a:(r+1)*C<=R*C:=Int.mul_le_mul_of_nonneg_right byO byO;have b:0<=r*C:=Int.mul_nonneg h0 byO
 grind
theorem AK{R C:Int}{n:Nat}(hRC:(n:Int)=R*C):Refines (rB R C n) (a0 R C) (MG n) where
 asg:=by
  intro m g r c b m' hr h;simp only[rB,Io,fG]at h;split at h
  ·rename_i hc
   obtain⟨hok,hn,hb,hbit⟩:=hc;have hok':=hok;simp only[okI,ac₀,af₀]at hok';obtain⟨⟨hin,h0⟩,h1⟩:=hok';generalize hi:(iE R C r c).toNat=i at *;have hilt:i<n:=byO;have hneg:g.cells.getD i (-1)=-1:=by
    refine hr.neg i hilt ?_
    grind[MG.bit]
   have hm:m'=⟨m.bits ||| 2^i,m.next,m.k+1⟩:=by simp_all
   subst hm;refine⟨⟨g.next,g.cells.set i (8*g.next+b)⟩,?_,?_⟩
   ·grind[a0,PA,MG.len,MG.next]
   ·have dS:8*g.next+b=m.k:=by grind[MG.next]
    rw[dS];have hl:i<g.cells.length:=by grind[MG.len]
    refine⟨hr.next,by simp[hr.len],?_,?_,?_,?_,?_,?_⟩
    ·intro j hj
     simp only[xp hl];by_cases e:j=i
     ·subst e;simp
     ·have:=hr.bit j hj
      grind
    ·grind[xp,MG.neg]
    ·intro j hj
     have:=hr.lt j hj
     grind
    ·intro a b ha hb' h0 he
     have la:=hr.lt a ha;have lb:=hr.lt b hb'
     grind[MG.inj]
    ·intro v hv
     simp only at hv;by_cases e:v=m.k
     ·exact⟨i,hilt,by simp_all⟩
     ·obtain⟨j,hj,hjv⟩:=hr.sur v byO
      refine⟨j,hj,?_⟩
      grind
    grind[MG.cnt]
  ·simp at h
 free:=by
  intro m g r c hr;simp only[rB,a0];by_cases h:(0<=r/\r<R)/\0<=c/\c<C
  ·have hlt:=vZ h.1.1 h.1.2 h.2.1 h.2.2
   have hi:(r*C+c).toNat<n:=byO;have:=hr.bit _ hi
   grind[MG.len]
  grind
 bump:=by
  intro m g hr;simp only[rB,a0,fG];exact⟨by grind[MG.next],hr.len,hr.bit,hr.neg,hr.lt,hr.inj,hr.sur,hr.cnt⟩
def AT(R C:Int):Option G:=pW (a0 R C) R C 200 ⟨0,List.replicate (R*C).toNat (-1)⟩ 4 0
theorem JT(n:Nat):MG n ⟨0,0,0⟩ ⟨0,List.replicate n (-1)⟩:=by
 have hg:∀i,(List.replicate n (-1:Int)).getD i (-1)=-1:=by
  grind
 refine⟨rfl,by simp,fun i _=>?_,fun i _ _=>hg i,fun i _=>by rw[hg];simp,fun i j _ _ h=>by simp_all,fun v h=>by simp at h,?_⟩
 all_goals simp_all
def dG(R C:Nat)(w:Nat):Bool:=match pW (rB R C (R*C)) R C 200 ⟨0,0,0⟩ 4 0 with
 | some m=>m.next==w&&m.k==8*w
 | none=>false
structure Ordered (n:Nat)(w:Nat)(l:List Int):Prop where
 len:l.length=n
 neg:∀i,i<n->l.getD i (-1)<0->l.getD i (-1)=-1
 lt:∀i,i<n->l.getD i (-1)<8*w
 inj:∀i j,i<n->j<n->0<=l.getD i (-1)->l.getD i (-1)=l.getD j (-1)->i=j
 sur:∀v:Nat,v<8*w->∃i,i<n/\l.getD i (-1)=v
 cnt:l.countP (fun x=>decide (0<=x))=8*w
theorem AU{R C w:Nat}(h:dG R C w=true):∃g,AT R C=some g/\Ordered (R*C) w g.cells:=by
 unfold dG at h;split at h
 ·rename_i m hm
  simp at h;obtain⟨g,h1,h2⟩:=(AK (R:=R) (C:=C) (n:=R*C) (by simp)).out _ _ _ _ _ _ _ _ (JT (R*C)) hm;refine⟨g,?_,h2.len,h2.neg,fun i hi=>by have:=h2.lt i hi;omega,h2.inj,fun v hv=>h2.sur v byO,by grind[MG.cnt]⟩
  assumption
 ·simp at h
set_option maxRecDepth 1000000 in
theorem Uk:dG 8 8 8=true:=by kernel_rfl
end Go.Proofs.YtmnlgdpdgjbfgaaGreat
