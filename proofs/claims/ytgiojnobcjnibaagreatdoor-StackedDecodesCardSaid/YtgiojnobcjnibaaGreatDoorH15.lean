/- Lemmas. -/
import Derived.Test.YtgiojnobcjnibaaGreatDoorH13
import Derived.Test.YtgiojnobcjnibaaGreatDoorH14
import Derived.Shelf.Abstract
import Derived.Lib.SmallJoins
set_option linter.all false
set_option maxHeartbeats 1000000
def Xx{P:Prop}(h:P:=by simp[af₀]at h;omega):P:=h
def Xy{P:Prop}(h:P:=by simp[ai₀]at h;omega):P:=h
namespace Go.Abs
def Jr(cf:kZ)(ca:CallR):Prop:=∀(lo f:Nat) (args:List FV) (A:FH) (H:Heap) (k:FV->FH->Bool),RH A H->cf lo f args A k=true->∃x A' H',ca lo f (toL args) H=some (.inl<|toV x,H')/\RH A' H'/\k x A'=true
def tW{cf:kZ}{ca:CallR}(p:Jr cf ca){lo:Nat}{vs:List FV}{A:FH}{H:Heap}(j:RH A H){k:FV->FH->Bool}{b:Bool}(h:fCall b cf lo vs A k=true) :
  ∃f d g r,toL vs=.func (.func f) d g::r/\Ag (ca.ret (if b then H.length else lo) f (d.toList++r++g.toList) H) k:=by
 rcases vs with _|⟨x,r⟩
 .cases h
 have e:fCall.bB' b A.size lo=if b then H.length else lo:=by rw[j.size];cases b<;>rfl
 obtain⟨v,rfl,i⟩:=(ow h).resolve_right Wc;cases v<;>try cases i
 case func fn d g=>
  cases fn<;>try cases i
  case func f=>
   have⟨a,u,m⟩:=jE (show ofL d.toList (λa=>ofL g.toList λc=>cf (fCall.bB' b A.size lo) f (a++r++c) A k)=true from i);have⟨c,q,n⟩:=jE m;have⟨y,l,H',t,s,o⟩:=p _ _ _ _ _ _ j n;refine⟨f,d,g,toL r,rfl,y,l,H',?_,s,o⟩
   grind[y9,CallR.ret]
def Sc{β:Type}{l:List β}{f:β->β->β->Bool}(h:l3 l f false=true):∃x y z,l=[x,y,z]/\f x y z=true:=by
 rcases l with _|⟨x,_|⟨y,_|⟨z,_|⟨w,r⟩⟩⟩⟩
 .cases h
 .cases h
 .cases h
 .exact⟨x,y,z,rfl,h⟩
 .cases h
theorem Jz(z:FV):GG z=aT (toV z):=by cases z<;>rfl
theorem JO{a b:Value}(h:JN a b=true):a=b:=by
 unfold JN at h;grind
theorem AQ:∀{x y:XV},ue x y=true->x=y
 | [],[],_=>rfl
 | a::x,b::y,h=>by
  simp[ue]at h;rw[JO h.1,AQ h.2]
 | [],_::_,h=>by simp[ue]at h
 | _::_,[],h=>by simp[ue]at h
def Kv{A B:FH}{H H':Heap}(z:RH A H)(C:RH B H'){v:FV}{k:Bool}(h:C7 A B v k=true):iI H H' (toV v)=true/\k=true:=by
 unfold C7 at h;rw[Jz]at h;unfold iI;cases g:aT (toV v)with
 | none=>simp_all
 | some i=>
  rw[g]at h;have⟨u,l,o,x,s,_⟩:=jg z (show A.blk i (λm t=>B.blk i λw D=>t.rd 0 m [] λl=>D.rd 0 w [] λl'=>bB (ue (toL l)<|toL l') k false)=true from h);have⟨I,l',p,y,f,_⟩:=jg C o;have⟨c,F,q,_,r⟩:=T.rd_rep x 0 _ [] p;have⟨c',G,e,_,b⟩:=T.rd_rep y 0 _ [] q;grind[dh,oi,AQ]
def zc{A B:FH}{H H':Heap}(a:RH A H)(b:RH B H'):∀(l:List FV) {k:Bool},xS A B l k=true->(toL l).all (iI H H')=true/\k=true
 | [],k,h=>⟨rfl,h⟩
 | v::l,k,h=>by
  have⟨c,d⟩:=Kv a b (show C7 A B v (xS A B l k)=true from h);have⟨e,f⟩:=zc a b l d;grind[toL]
def Hg{cf:kZ}{ca:CallR}(hc:Jr cf ca){o:HOp}{lo:Nat}{vs:List FV}{A:FH}{H:Heap}(I:RH A H){k:FV->FH->Bool}(h:Nv o cf lo vs A k=true):Ag (hsem ca.ret lo o (toL vs) H) k:=by
 cases o
 case call R=>
  have⟨f,K,M,r,w,g⟩:=tW hc I (show fCall R cf lo vs A k=true from h);rw[w];exact g
 case callK n=>
  have⟨f,K,M,r,w,y,C,H',j,P,D⟩:=tW hc I (show fCall false cf lo (vs.drop n) A (λv H'=>xS A H' (vs.take n)<|k v H')=true from h);have⟨G,F⟩:=zc I P (vs.take n) D;refine⟨y,C,H',?_,P,F⟩;grind[eP,List.map_drop,List.map_take,hsem,di]
 case mkMap=>
  have⟨w,g⟩:=dh (show bB (Nat.ble vs.length 1) (A.pushL [] λb H=>k (.o<|.map<|some b) H) false=true from h);have⟨C,j,P⟩:=jt I g;exact⟨_,C,_,by simp only[hsem,iG,if_pos<|Nat.le_of_ble_eq_true w];rfl,P,j⟩
 case mset ks agg=>
  obtain⟨m,y,z,rfl,w⟩:=Sc h;obtain⟨v,rfl,g⟩:=(ow w).resolve_right Wc;cases v<;>try cases g
  case map a=>
   cases a
   .cases g
   next i=>
    have⟨N,j⟩:=dh (show bB (Nat.ble lo i) (A.blk i λn t=>t.rd 0 n [] λl=>oB (iJ ks agg (toV y)<|toV y) λ_=>oB (eJ ks agg (toV y) (toL l) 0) λr=>ofL (Iu (toL l) (toV y) (toV z) r) λl'=>T.insL l' 0 .e λt'=>fN l'.length λm=>A.setB i (.mk m t') λH=>k nI H) false=true from g);have⟨u,l,D,r4,W,_⟩:=jg I j;have⟨c,G,F,_,J⟩:=T.rd_rep r4 0 _ [] D;rw[List.append_nil]at F;have c0:c=l:=Wx
    rw[c0]at F;have⟨q,hq,L⟩:=ku F;have⟨p,hp,S⟩:=ku L;have⟨l',e0,a0⟩:=jE S;have⟨t',V,h0⟩:=T.insL_rep l' AH rfl a0;rw[gf]at V;have⟨C,b0,Z⟩:=sM I (x:=.mk l'.length t') (y:=some<|toL l') ⟨l',Wx,rfl,rfl⟩ V;rw[e0]at Z;refine⟨nI,C,_,?_,Z,b0⟩;have e3:toL [.o<|.map<|some i,y,z]=[.map<|some i,toV y,toV z]:=rfl;simp[e3,hsem,lX,if_pos (show lo<=i from Nat.le_of_ble_eq_true N),W,hq,hp];rfl
 case mclr=>
  obtain⟨m,rfl,w⟩:=jm h;obtain⟨v,rfl,g⟩:=(ow w).resolve_right Wc;cases v<;>try cases g
  case map a=>
   cases a
   .exact⟨nI,A,H,rfl,I,g⟩
   next i=>
    have⟨N,j⟩:=dh (show bB (Nat.ble lo i) (A.blk i λ_ _=>A.setB i (.mk 0 .e) λH=>k nI H) false=true from g);have⟨u,l,D,r4,W,_⟩:=jg I j;have⟨C,G,Q⟩:=sM I (x:=.mk 0 .e) (y:=some []) ⟨[],AH,rfl,rfl⟩ D;refine⟨nI,C,_,?_,Q,G⟩;have e3:toL [.o<|.map<|some i]=[.map<|some i]:=rfl;simp[e3,hsem,lW,if_pos (show lo<=i from Nat.le_of_ble_eq_true N),W];rfl
 case sit=>cases h
 case snx=>cases h
 case callC=>
  have⟨f,K,M,r,w,g⟩:=tW hc I (show fCall false cf lo vs A k=true from h);rw[w];exact g
 case alloc B=>
  rcases vs with _|⟨x,r⟩
  .have⟨l,w,g⟩:=jE (show ofL B (λl=>A.pushL l λb H=>k (.p b 0) H)=true from h)
   have⟨C,j,P⟩:=jt I g;rw[w]at P;exact⟨_,C,_,rfl,P,j⟩
  .cases h
 case box=>
  obtain⟨x,rfl,w⟩:=jm h;have⟨l,g,j⟩:=vU w;have⟨C,D,r4⟩:=jt I j;rw[g]at r4;exact⟨_,C,_,rfl,r4,D⟩
 case mkSl B=>
  obtain⟨x,y,rfl,w⟩:=(oL h).resolve_right Wc;obtain⟨kd,l,rfl,g⟩:=(qm w).resolve_right Wc;obtain⟨X,c,rfl,j⟩:=(qm g).resolve_right Wc;have⟨hl,D⟩:=dh j;have⟨hm,G⟩:=dh D;have hl:l<=c:=Nat.le_of_ble_eq_true hl;have hm:c<=cT:=Nat.le_of_ble_eq_true hm;have Y:∀{C:FH},RH C (H++[some<|bK B c])->k (.s H.length 0 l c none) C=true->Ag (hsem ca.ret lo (.mkSl B) (toL [.i kd l,.i X c]) H) k:=by
   intro C r h;refine⟨_,C,_,?_,r,h⟩;grind[uv,toV,hsem]
  have U:ofL (bK B c) (λz=>A.pushL z λb H=>k (.s b 0 l c none) H)=true->Ag (hsem ca.ret lo (.mkSl B) (toL [.i kd l,.i X c]) H) k:=by
   grind[jE,jt]
  rcases B with _|⟨z,_|⟨z',zs⟩⟩
  .exact U G
  .have⟨x,hx,F⟩:=uG (show ofV z (λz=>T.rep z 40 c λt=>A.push (.mk c t) λb H=>k (.s b 0 l c none) H)=true from G)
   have⟨t,J,r7⟩:=T.rep_rep x 40 c F;have⟨C,L,r8⟩:=yJ I (x:=.mk c t) (y:=some<|bK [z] c) ⟨_,r7,Wc,by simp[bK,eP,<-hx]⟩ J;exact Y r8 L
  .exact U G
 case bSl B len g0=>
  have⟨l,w,g⟩:=ku (show oB (buildL (bK B len) (g0.map λi=>(i*B.length,B.length))<|toL vs) (λl=>ofL l λl=>A.pushL l λb H=>k (.s b 0 len len none) H)=true from h);have⟨m,j,D⟩:=jE g;have⟨C,G,Q⟩:=jt I D;rw[j]at Q;exact⟨_,C,_,by simp[hsem,w];rfl,Q,G⟩
 case st n=>
  obtain⟨x,y,rfl,w⟩:=(oL h).resolve_right Wc;obtain⟨b,o,rfl,g⟩:=(vQ w).resolve_right Wc;have⟨l,j,D⟩:=vU g;have⟨O,G⟩:=dh D;have⟨F,J⟩:=rl G;have⟨C,H',L,S,r9⟩:=Jm I J;have O:(toV y).cells.size=n:=by grind[Nat.eq_of_beq_eq_true,iG]
  have ho:=yE F;rw[j]at S ho;refine⟨nI,C,H',?_,r9,L⟩;simp only[uv,toV,hsem];rw[if_pos ⟨O,ho⟩];exact congrArg (Option.map λH'=>(undef,H')) S
 case app sz z=>
  obtain⟨s,x,rfl,w⟩:=(oL h).resolve_right Wc;rcases x with _|_|_|⟨b,o,n,c,sp⟩|v
  .cases w
  .cases w
  .cases w
  .grind[DS,rl,rn,uv,toV,hsem,yE]
  .cases v<;>try cases w
   case slice a n c=>
    cases a
    .have⟨g,j⟩:=dh w
     have⟨y,C,H',F,J⟩:=rn I j;refine⟨y,C,H',?_,J⟩;simp only[uv,toV,hsem];rw[if_pos<|Nat.eq_of_beq_eq_true g];exact F
    .cases w
 case appN sz z=>
  obtain⟨s,x,rfl,w⟩:=(oL h).resolve_right Wc;obtain⟨kd,n,rfl,g⟩:=(qm w).resolve_right Wc;have⟨O,j⟩:=dh g;have O:n<=1048576:=Nat.le_of_ble_eq_true O;grind[jE,rn,uv,toV,hsem]
 case appS z=>
  obtain⟨s,x,rfl,w⟩:=(oL h).resolve_right Wc;obtain⟨v,rfl,g⟩:=(ow w).resolve_right Wc;cases v<;>try cases g
  case string b=>
   have⟨l,j,D⟩:=jE g;rw[gf]at D;have⟨y,C,H',F,J⟩:=rn I D;rw[j]at F;exact⟨y,C,H',F,J⟩
 case cpy sz=>
  obtain⟨d,a,rfl,w⟩:=(oL h).resolve_right Wc;rcases vR w with ⟨b,o,n,c,sp,rfl,g⟩|g
  .rcases vR g with ⟨b',o',m,c',j0,rfl,j⟩|j
   .rw[gf]at j
    have⟨new,D,_,G⟩:=DS I j;have⟨F,J⟩:=rl D;have⟨C,H',L,S,r9⟩:=Jm I J;have G:H.cells b' o' (min m n*sz)=some (toL new):=G;refine⟨_,C,H',?_,r9,L⟩;grind[uv,toV,hsem,yE]
   .obtain⟨v,rfl,D⟩:=(ow j).resolve_right Wc
    cases v<;>try cases D
    case slice a m c'=>
     cases a
     .have⟨G,F⟩:=dh D
      refine⟨_,A,H,?_,I,F⟩;grind[uv,toV,hsem,Nat.eq_of_beq_eq_true]
     .cases D
  .obtain⟨v,rfl,j⟩:=(ow g).resolve_right Wc
   cases v<;>try cases j
   case slice a' n c=>
    cases a'
    .have⟨D,G⟩:=dh j
     have⟨F,J⟩:=dh G;have ha:∃p l c,toV a=.slice p l c:=by
      rcases a with _|_|_|⟨b,o,l,c,sp⟩|v
      .cases F
      .cases F
      .cases F
      .exact⟨_,_,_,rfl⟩
      .cases v<;>first|exact⟨_,_,_,rfl⟩|cases F
     have⟨p,l,c',ha⟩:=ha;refine⟨_,A,H,?_,I,J⟩;grind[uv,toV,hsem,Nat.eq_of_beq_eq_true]
    .cases j
 case s2b=>
  obtain⟨x,rfl,w⟩:=jm h;obtain⟨v,rfl,g⟩:=(ow w).resolve_right Wc;cases v<;>try cases g
  case string b=>
   have⟨l,j,D⟩:=jE g;rw[gf]at D;have⟨C,G,Q⟩:=jt I D;rw[j]at Q;exact⟨_,C,_,rfl,Q,G⟩
 case frz=>
  obtain⟨x,rfl,w⟩:=jm h;obtain⟨b,o,n,c,sp,rfl,g⟩:=(vR w).resolve_right Wc;cases sp with
  | none=>
   have⟨u,l,j,_,W,_⟩:=jg I (show A.blk b (λ_ _=>bB (Nat.ble lo b) (k (.s b o n c none) A) false)=true from g);have⟨D,G⟩:=dh j;refine⟨_,A,H,?_,I,G⟩;grind[lu,toV,hsem,lT,Nat.le_of_ble_eq_true]
  | some z=>cases g
 case fail=>cases h
 case pan=>cases h
def XO1(fx:FS->FH->(Ex->FS->FH->Bool)->Bool)(ex:XV->Heap->Out):Prop:=∀(F:FS) (S:XV) (A:FH) (H:Heap) (k:Ex->FS->FH->Bool),RS F S->RH A H->fx F A k=true ->
 ∃x F' S' A' H',ex S H=some (x,S',H')/\RS F' S'/\RH A' H'/\k x F' A'=true
def XOK(fx:FX)(ex:Nat->XV->Heap->Out):Prop:=∀lo,XO1 (fx lo)<|ex lo
def jC{a:Nat->XV->Heap->Out}:XOK noX a:=λ_ _ _ _ _ _ _ _ h=>by cases h
theorem lH{x:Ex}{n r:Bool}{e:Nat->Bool}(h:cEx x n e r=true):(x=.normal/\n=true)\/(∃i,x=.exit i/\e i=true)\/(x=.ret/\r=true):=by
 cases x
 .exact .inl ⟨rfl,h⟩
 .exact .inr<|.inl ⟨_,rfl,h⟩
 .exact .inr<|.inr ⟨rfl,h⟩
def IH{a:FX}{c:Nat->XV->Heap->Out}(d:XOK a c):∀n,XOK (itF a n) λlo=>iter (c lo) n
 | 0=>λ_ _ _ _ _ _ _ _ h=>by cases h
 | n+1=>λlo F S A H k l j h=>by
  have⟨x,p,s,m,H',u,f,g,e⟩:=d lo F S A H _ l j (show a lo F A (λx S H=>cEx x (itF a n lo S H k) (λi=>k (.exit i) S H)<|k .ret S H)=true from h);rcases lH e with ⟨rfl,b⟩|⟨i,rfl,b⟩|⟨rfl,b⟩
  .have⟨y,q,t,o,r,v,w⟩:=IH d n _ _ _ _ _ _ f g b
   grind[iter]
  all_goals grind[iter]
def Cl{f:Nat->FX}{lo:Nat}{g:XV->Heap->Out}(m:∀t:Nat,XO1 (f t lo) λS H=>g (.int .i64 (t:Int)::S) H) :
  ∀n {x:Ex} {F:FS} {S:XV} {A:FH} {H:Heap} {k:Ex->FS->FH->Bool},RS F S->RH A H->KZ f lo n x F A k=true ->
   ∃x' i l e H',hop g n (some (x,S,H))=some (x',l,H')/\RS i l/\RH e H'/\k x' i e=true
 | 0,x,F,S,A,H,k,c,b,h=>by cases h
 | n+1,x,F,S,A,H,k,c,b,h=>by
  rcases lH (show cEx x (k .normal F A) (λj=>bB (Nat.ble 1000000 j) (f (Nat.sub j 1000000) lo F A λx S H=>KZ f lo n x S H k)<|k (.exit j) F A) (k .ret F A)=true from h)with ⟨rfl,a⟩|⟨j,rfl,a⟩|⟨rfl,a⟩
  .exact⟨_,F,S,A,H,rfl,c,b,a⟩
  .refine eV a (λd h=>?_) λd h=>?_
   .have d:bM<=j:=Nat.le_of_ble_eq_true d
    have⟨I,u,z,r,w,C,p,q,o⟩:=m _ _ _ _ _ _ c b h;have⟨J,v,B,s,y,D,G⟩:=Cl m n p q o
    grind[hop,bM]
   grind[jO,hop,bM]
  .exact⟨_,F,S,A,H,rfl,c,b,a⟩
def mY{cf:kZ}{ca:CallR}(hc:Jr cf ca)(n:Nat)(s:Stm):XOK (iH cf n s).1 (λlo=>exec ca lo n s)/\∀t:Nat,XOK ((iH cf n s).2 t) λlo S H=>exec ca lo n s (.int .i64 (t:Int)::S) H:=by
 induction s with
 | skip=>exact⟨λ_ _ _ _ _ _ m e h=>⟨_,_,_,_,_,rfl,m,e,h⟩,λ_=>jC⟩
 | sets l P=>
  refine⟨λlo F S A H k m e h=>?_,λ_=>jC⟩;have⟨vs,G,J,C,q⟩:=tg m e l m h
  grind[xU,exec]
 | hv l P pc dst o a=>
  refine⟨λlo F S A H k m e h=>?_,λ_=>jC⟩;have⟨vs,G,J,C,q⟩:=tg m e l m h;have⟨p,u⟩:=xU m e P q;rcases BI m e pc u with ⟨D,V⟩|⟨D,V⟩
  .have⟨xs,h7,h8⟩:=tY a m e V
   rw[List.append_nil]at h8;have⟨x,A',H',h9,r9,Q⟩:=Hg (cf:=cf) (ca:=ca) hc e h8;cases dst with
   | none=>exact⟨_,G,_,A',H',by grind[exec],C,r9,Q⟩
   | some d=>
    have⟨F',R,U⟩:=C.set Q
    grind[exec]
  .cases dst with
   | none=>exact⟨_,G,_,A,H,by grind[exec],C,e,V⟩
   | some d=>
    have⟨F',R,U⟩:=C.set V;exact⟨_,F',_,A,H,by simp[exec,J,p,if_true,D];rfl,U,e,R⟩
 | dist a b=>
  refine⟨λlo F S A H k m e h=>?_,λ_=>jC⟩;have⟨x,J,q⟩:=sE m e h;have⟨y,p,u⟩:=sE m e q;have I:∀z:FV,GG z=aT (toV z):=by intro z;cases z<;>rfl
  rw[I,I]at u;have:(aT (toV x)=none\/aT (toV x)≠aT (toV y))/\k .normal F A=true:=by
   rcases hx:aT (toV x)with _|i
   .simp_all
   .rcases hy:aT (toV y)with _|j
    .simp_all
    .rw[hx,hy]at u
     refine eV u (λ_ h=>by cases h) λI h=>⟨.inr ?_,h⟩
     grind[Nat.ne_of_beq_eq_false]
  grind[exec]
 | seq a b w B=>
  refine⟨λlo F S A H k m e h=>?_,λ_=>jC⟩;have⟨x,F1,S1,A1,H1,J,C,W,q⟩:=w.1 _ _ _ _ _ _ m e (show(iH cf n a).1 lo F A (λx S H=>cEx x ((iH cf n b).1 lo S H k) (λi=>k (.exit i) S H)<|k .ret S H)=true from h);rcases lH q with ⟨rfl,p⟩|⟨i,rfl,p⟩|⟨rfl,p⟩
  .have⟨O,L,N,K,M,u,D⟩:=B.1 _ _ _ _ _ _ C W p
   grind[exec]
  all_goals grind[exec]
 | cond c a b w B=>
  refine⟨λlo F S A H k m e h=>?_,λ_=>jC⟩;have⟨xs,J,q⟩:=tY c m e (show fev c F A [] (λl=>isB l ((iH cf n a).1 lo F A k)<|(iH cf n b).1 lo F A k)=true from h);rw[List.append_nil]at q;rcases BN q with ⟨rfl,p⟩|⟨rfl,p⟩
  .have⟨O,L,N,K,M,u,D⟩:=w.1 _ _ _ _ _ _ m e p
   grind[exec,ev1,lu,toV]
  .have⟨O,L,N,K,M,u,D⟩:=B.1 _ _ _ _ _ _ m e p
   grind[exec,ev1,lu,toV]
 | block i b X=>
  refine⟨λlo F S A H k m e h=>?_,λ_=>jC⟩;have⟨x,F1,S1,A1,H1,J,C,W,q⟩:=X.1 _ _ _ _ _ _ m e (show(iH cf n b).1 lo F A (λx S H=>cEx x (k .normal S H) (λj=>bB (Nat.beq j i) (k .normal S H)<|k (.exit j) S H)<|k .ret S H)=true from h);rcases lH q with ⟨rfl,p⟩|⟨j,rfl,p⟩|⟨rfl,p⟩
  .grind[exec]
  .refine eV p (λI h=>?_) λI h=>?_
   all_goals grind[exec,Nat.eq_of_beq_eq_true,Nat.ne_of_beq_eq_false]
  grind[exec]
 | loop b X=>
  refine⟨λlo F S A H k m e h=>?_,λ_=>jC⟩;have⟨O,L,N,K,M,u,D⟩:=IH X.1 n _ _ _ _ _ _ m e h
  grind[exec]
 | exit i=>exact⟨λ_ _ _ _ _ _ m e h=>⟨_,_,_,_,_,rfl,m,e,h⟩,λ_=>jC⟩
 | ret=>exact⟨λ_ _ _ _ _ _ m e h=>⟨_,_,_,_,_,rfl,m,e,h⟩,λ_=>jC⟩
 | scope b v B w=>
  refine⟨λlo F S A H k m e h=>?_,λ_=>jC⟩;have⟨x,F1,S1,A1,H1,J,C,W,q⟩:=B.1 _ _ _ _ _ _ m e (show(iH cf n b).1 lo F A (λx S H=>KZ (iH cf n v).2 lo n x S H k)=true from h);have⟨O,L,N,K,M,u,D⟩:=Cl (f:=(iH cf n v).2) (lo:=lo) (g:=exec ca lo n v) (λt=>w.2 t lo) n C W q
  grind[exec]
 | alt l s r Z Y=>
  refine⟨jC,λt {lo F S A H k} m e h=>?_⟩;have h:xAlt.bX (iH cf n s).1 ((iH cf n r).2 t) (Nat.beq t l) lo F A k=true:=h;cases I:Nat.beq t l
  .rw[I]at h
   have⟨O,L,N,K,M,u,D⟩:=Y.2 t _ _ _ _ _ _ m e h
   grind[exec,Nat.ne_of_beq_eq_false]
  .rw[I]at h
   have⟨O,L,N,K,M,u,D⟩:=Z.1 _ _ _ _ _ _ m e h
   grind[exec,Nat.eq_of_beq_eq_true]
theorem xX{F:FS}{S:XV}{A:FH}{H:Heap}(b:RS F S)(a:RH A H):∀(l:List E) {k:List FV->Bool},EL l F A k=true->∃xs,evList S H l=some (toL xs)/\k xs=true
 | [],k,h=>⟨[],rfl,h⟩
 | e::l,k,h=>by
  have⟨x,c,d⟩:=sE b a (show BC e F A (λv=>EL l F A λl=>k (v::l))=true from h);have⟨xs,f,g⟩:=xX b a l d;exact⟨x::xs,by simp[evList,c,f];rfl,g⟩
theorem DV{l:List FV}{k:FV->Bool}(h:JG l k=true):∃x,aR (toL l)=toV x/\k x=true:=by
 rcases l with _|⟨x,_|⟨y,l⟩⟩
 all_goals exact⟨_,rfl,h⟩
def Dn(cp:Wl)(sc:SC)(N:Nat):Prop:=∀f args k d,sc f args k d=true->d=true\/∃v g,k v g=true /\
 ∀m,N<=m->∀(lo:Nat) (H:Heap),lo<=H.length->∃G:Heap,G.length=g/\run cp m lo f (toL args) H=some (.inl<|toV v,H++G)
def kF{cp:Wl}{X:SC}{N:Nat}(q:Dn cp X N):∀n,Jr (nz cp X N n)<|run cp<|n+N
 | 0=>λ_ _ _ _ _ _ _ h=>by cases h
 | n+1=>λlo f args A H k rh h=>by
  rcases q _ _ _ _ (show X f args (λv g=>A.skip lo g λH=>k v H) _=true from h)with h|⟨v,g,B,hr⟩;rotate_left
  .obtain⟨t,rfl,ht⟩:=rh
   have⟨V,h2⟩:=dh (show bB (Nat.ble lo H.length) (fN (Nat.add H.length g) λm=>k v<|.mk m t) false=true from B);rw[gf]at h2;have⟨G,hG,hr⟩:=hr (n+1+N) byO lo H<|Nat.le_of_ble_eq_true V;refine⟨v,_,H++G,hr,⟨t,Wx,λb=>?_⟩,h2⟩;have:=ht b;by_cases hb:b<H.length
   .grind
   .rw[av₀ byO]at this
    rcases hg:t.get b with _|x
    .exact trivial
    .rw[hg]at this;cases x<;>exact this.elim
  rw[show n+1+N=(n+N)+1 by omega];have⟨cf,V,h2⟩:=ku (show oB (cp f) _=true from h);have⟨O,h3⟩:=dh h2;have O:args.length=cf.np:=Nat.eq_of_beq_eq_true O;have⟨t,h4,r4⟩:=T.rep_rep nI 12 cf.ns h3;have⟨t2,J,r5⟩:=T.setL_rep args r4 h4;have rs:RS t2<|toL args++List.replicate (cf.ns-cf.np) undef:=⟨_,r5,by
   simp_all[toV,nI,vL,eP]⟩
  cases B:cf.kind with
  | plain=>
   rw[B]at J;have⟨x,R,U,r,s,Z,W,F,h7⟩:=(mY (kF q n) (n+N) cf.body).1 _ _ _ _ _ _ rs rh J;have Y:(EL cf.res R r λl=>JG l λv=>k v r)=true->∃x,(match evList U s cf.res with
     | some vs=>some (Sum.inl (β:=Value)<|aR vs,s)
     | none=>none)=some (.inl<|toV x,s)/\k x r=true:=by
    grind[xX,DV]
   grind[lH,run,iG]
  | dfr Y0 j e0=>
   rw[B]at J;have K:∀{U:XV} {R:FS} {r:FH} {s:Heap},RS R U->RH r s->wB cf.res R r k=true->∃x,oa cf.res U s=some (.inl<|toV x,s)/\k x r=true:=by
    intro U R r s W F h;have⟨xs,p,w⟩:=xX W F cf.res h;grind[DV,oa]
   have⟨x,R,U,r,s,Z,W,F,h7⟩:=(mY (kF q n) (n+N) cf.body).1 _ _ _ _ _ _ rs rh J;rcases lH h7 with ⟨rfl,p⟩|⟨i,rfl,p⟩|⟨rfl,p⟩
   .have⟨x2,F2,S2,A2,H2,w,r9,Z0,d⟩:=(mY (kF q n) (n+N) Y0).1 _ _ _ _ _ _ W F p
    rcases lH d with ⟨rfl,o⟩|⟨i,rfl,o⟩|⟨rfl,o⟩
    .have⟨v,hv,g0⟩:=ku o
     obtain⟨v2,rfl,L⟩:=(ow g0).resolve_right Wc;have hs:=r9.get hv;cases v2<;>try cases L
     case func fn c u=>
      cases fn<;>try cases L
      case func g=>
       have⟨x3,F3,S3,A3,S,h0,a1,b1,j0⟩:=(mY (kF q n) (n+N) e0).1 _ _ _ _ _ _ r9 Z0 (show(iH (nz cp X N n) (n+N) e0).1 lo F2 A2 (λx S2 H2=>(λ(go:Bool)=>cEx x go (λ_=>false) go)<|ofL (c.toList++u.toList) λa=>Hk cp (n+N) (nz cp X N n) lo g a H2 λS=>wB cf.res S2 S k)=true from L);have P:(x3=.normal\/x3=.ret)/\(ofL (c.toList++u.toList) λa=>Hk cp (n+N) (nz cp X N n) lo g a A3 λS=>wB cf.res F3 S k)=true:=by
        grind[lH]
       have⟨P,l0⟩:=P;have⟨ar,a0,o0⟩:=jE l0;have⟨z,T0,C⟩:=ku (show oB (cp g) _=true from o0);cases M:z.kind with
       | rcv jj=>
        rw[M]at C;have⟨D,q0⟩:=dh C;have D:ar.length=z.np:=Nat.eq_of_beq_eq_true D;have⟨t3,r0,e1⟩:=T.rep_rep nI 12 z.ns q0;have⟨t4,s0,g1⟩:=T.setL_rep ar e1 r0;have j1:RS t4<|toL ar++List.replicate (z.ns-z.np) undef:=⟨_,g1,by
         simp_all[toV,nI,vL,eP]⟩
        have⟨t5,w0,k1⟩:=j1.set s0;have⟨x5,F5,S5,A5,H5,x0,m1,c0,y0⟩:=(mY (kF q n) (n+N) z.body).1 _ _ _ _ _ _ k1 b1 w0;have Q:(x5=.normal\/x5=.ret)/\wB cf.res F3 A5 k=true:=by
         grind[lH]
        have⟨Q,z0⟩:=Q;have⟨y,H0,S0⟩:=K a1 c0 z0;have hR:jv cp (run cp<|n+N) lo (n+N) g (c.toList++u.toList) .nilIface S=some H5:=by
         have I:exec (run cp<|n+N) lo (n+N) z.body ((toL ar++List.replicate (z.ns-z.np) undef).set jj .nilIface) S=some (x5,S5,H5):=x0;grind[iG,jv]
        have X0:S2[j]?=some (.func (.func g) c u):=hs;refine⟨y,A5,H5,?_,c0,S0⟩;rcases P with rfl|rfl<;>simp[run,V,iG,O,if_true,B,iT,Z,w,X0,h0,hR,H0]
       | _=>simp_all
    all_goals simp_all
   all_goals grind[run,iG,iT]
  | rcv j=>simp_all
  | prim g=>simp_all
def Bh:RH (.mk 0 .e) []:=⟨.e,rfl,λb=>by simp[T.get_e,RO]⟩
def eq1(a b:Value):Bool:=
 match a,b with
 | .bool a,.bool b=>a==b
 | .int k a,.int k' b=>Nat.beq (idI k) (idI k')&&decide (a=b)
 | .slice none l c,.slice none l' c'=>Nat.beq l l'&&Nat.beq c c'
 | .slice (some ⟨b,o,none⟩) l c,.slice (some ⟨b',o',none⟩) l' c'=>Nat.beq b b'&&Nat.beq o o'&&Nat.beq l l'&&Nat.beq c c'
 | .slice (some ⟨b,o,some z⟩) l c,.slice (some ⟨b',o',some z'⟩) l' c'=>Nat.beq b b'&&Nat.beq o o'&&Nat.beq l l'&&Nat.beq c c'&&Nat.beq z z'
 | _,_=>false
theorem Ax{a b:Value}(h:eq1 a b=true):a=b:=by
 unfold eq1 at h;grind[id_eq,Nat.eq_of_beq_eq_true]
def eqL(eq:Value->Value->Bool):XV->XV->Bool
 | [],[]=>true
 | a::l,b::m=>eq a b&&eqL eq l m
 | _,_=>false
theorem xQ{eq:Value->Value->Bool}(c:∀{a b},eq a b=true->a=b):∀{l m:XV},eqL eq l m=true->l=m
 | [],[],_=>rfl
 | a::l,b::m,h=>by
  simp[eqL]at h;rw[c h.1,xQ c h.2]
 | [],_::_,h=>by cases h
 | _::_,[],h=>by cases h
def eq2(a b:Value):Bool:=match a,b with
 | .agg a,.agg b=>eqL eq1 a.toList b.toList
 | a,b=>eq1 a b
theorem HW{a b:Value}(h:eq2 a b=true):a=b:=by
 unfold eq2 at h;grind[Array.toList_inj,xQ,Ax]
def eq3(a b:Value):Bool:=match a,b with
 | .tuple a,.tuple b=>eqL eq2 a.toList b.toList
 | a,b=>eq2 a b
theorem tN{a b:Value}(h:eq3 a b=true):a=b:=by
 unfold eq3 at h;grind[Array.toList_inj,xQ,HW]
def Ic(k:Mv)(v:Value):Value:=match v with
 | .slice (some ⟨b,o,s⟩) l c=>.slice (some ⟨k.f b,o,s⟩) l c
 | .pointer (some ⟨b,o,s⟩)=>.pointer<|some ⟨k.f b,o,s⟩
 | v=>v
def Ie(k:Mv)(v:Value):Value:=match v with
 | .agg a=>.agg (a.toList.map<|Ic k).toArray
 | v=>Ic k v
def QT(k:Mv)(v:Value):Value:=match v with
 | .tuple a=>.tuple (a.toList.map<|Ie k).toArray
 | v=>Ie k v
theorem xu{k:Mv}{g:Value->Value}{eq:Value->Value->Bool}(a:∀{v b:Value},eq v v=true->Sh k v b->b=g v):∀{l l':XV},eqL eq l l=true->LSh k l l'->l'=l.map g
 | [],l',_,s=>by rw[s.of_nil];rfl
 | v::l,l',h,s=>by
  simp[eqL]at h;obtain⟨y,r,rfl,c,d⟩:=s.of_cons;rw[a h.1 c,xu a h.2 d];rfl
def JT{k:Mv}{v a:Value}(h:eq1 v v=true)(s:Sh k v a):a=Ic k v:=by cases s<;>first|rfl|(simp[eq1]at h)
def JU{k:Mv}{v b:Value}(h:eq2 v v=true)(s:Sh k v b):b=Ie k v:=by
 cases s
 case agg a a' c d=>
  have:=xu (k:=k) (eq:=eq1) (g:=Ic k) JT (l:=a.toList) (l':=a'.toList) h<|LSh.arr.2 ⟨c,d⟩;show Value.agg a'=.agg (a.toList.map<|Ic k).toArray;rw[<-this]
 all_goals exact JT (k:=k) (by simpa only[eq2]using h) (by constructor<;>assumption)
def JV{k:Mv}{v b:Value}(h:eq3 v v=true)(s:Sh k v b):b=QT k v:=by
 cases s
 case tuple a a' c d=>
  have:=xu (k:=k) (eq:=eq2) (g:=Ie k) JU (l:=a.toList) (l':=a'.toList) h<|LSh.arr.2 ⟨c,d⟩;show Value.tuple a'=.tuple (a.toList.map<|Ie k).toArray;rw[<-this]
 all_goals exact JU (k:=k) (by simpa only[eq3]using h) (by constructor<;>assumption)
noncomputable def yi(v0:Value)(i:Nat)(c:XV)(v:FV)(A:FH):Bool:=
 eq3 (toV v) v0&&A.blk i λm t=>t.rd 0 m [] λl=>eqL eq1 (toL l) c
def Jw{b:Value}{i:Nat}{c:XV}{v:FV}{A:FH}{H:Heap}(r:RH A H)(h:yi b i c v A=true):toV v=b/\H.get i=some c:=by
 simp[yi]at h;have⟨d,e⟩:=h;have⟨u,l,f,k,j,_⟩:=jg r e;have⟨c',m,a,_,g⟩:=T.rd_rep k 0 _ [] f;grind[tN,xQ,Ax]
def CG(v0:Value)(v:FV)(_:FH):Bool:=eq3 (toV v) v0
def tU{k:Mv}{H H' a:Heap}(d:k.n=H.length)(h:HSh k a H')(c:∀i,i<H.length->H'[i]?=H[i]?):Ext H H':=⟨Xu,λi b=>by grind[Heap.get]⟩
def Hb{cp:Wl}{l:SC}{N:Nat}(t:∀f cf,cp f=some cf->fo cf=true)(g:Dn cp l N){n f:Nat}{args:List FV}{b:Value}{i:Nat}{c:XV}(h:nz cp l N n 0 f args (.mk 0 .e) (yi b i c)=true)(q:(toL args).all gT=true)(w:eq3 b b=true)(r:c.all bU=true)
  {lo:Nat} {H:Heap} (d:lo<=H.length):Ev cp lo f (toL args) H λv H'=>Ext H H'/\v=QT (mv0 H.length) b/\H'.get (H.length+i)=some c:=by have⟨x,z,A,m,y,o⟩:=kF g n _ _ _ _ _ _ Bh h;obtain⟨rfl,s⟩:=Jw y o;refine zH t q (n+N) m d λB H' u k a=>⟨tU rfl k a,JV w u,?_⟩;have⟨c',j,p⟩:=k.get _ _ s;rw[wP r p,Ib]at j;exact j
def tR{cp:Wl}{j:SC}{N:Nat}(m:∀f cf,cp f=some cf->fo cf=true)(g:Dn cp j N){n f:Nat}{args:List FV}{b:Value}(h:nz cp j N n 0 f args (.mk 0 .e) (CG b)=true)(k:(toL args).all gT=true)(p:eq3 b b=true)
  {lo:Nat} {H:Heap} (d:lo<=H.length):Ev cp lo f (toL args) H λv H'=>Ext H H'/\v=QT (mv0 H.length) b:=by have⟨x,q,r,i,s,c⟩:=kF g n _ _ _ _ _ _ Bh h;have c:toV x=b:=tN c;rw[c]at i;exact zH m k (n+N) i d λt H' o l a=>⟨tU rfl l a,JV p o⟩
def FN{cp:Wl}(C:∀f cf,cp f=some cf->fo cf=true){f:FuncId}{args:XV}(t:args.all gT=true){v:Value}(D:∀(k:Mv) u,Sh k v u->u=v){d:Heap}{n:Nat}(h:run cp n 0 f args []=some (.inl v,d)) :
  ∀m,n<=m->∀(lo:Nat) (H:Heap),lo<=H.length->∃G:Heap,G.length=d.length/\run cp m lo f args H=some (.inl v,H++G):=by
 intro m B lo H A;have a:LSh (mv0 H.length) args args:=by
  refine⟨rfl,λj x y p q=>?_⟩;grind[dU]
 have⟨r',b,r,g,l⟩:=od C n 0 lo f args args [] H _ d ⟨Nat.le_refl _,Xf⟩ a ⟨by simp[mv0],λi c w=>by grind[Heap.get]⟩ h;have z:=l.sh.newf;rw[Ib]at z;cases r' with
 | inr u=>exact g.elim
 | inl u=>
  have e:u=v:=D _ _ g;subst e;refine⟨b.drop H.length,Wx,?_⟩;have s:b=H++b.drop H.length:=by
   refine List.ext_getElem? λi=>?_;by_cases o:i<H.length
   .rw[ax₀ o];exact l.pre i o
   grind
  rw[<-s];exact l9 B _ _ _ _ _ r
noncomputable def M4(v0:Value)(g:Nat)(v:FV)(A:FH):Bool:=bB (eq3 (toV v) v0) (Nat.beq A.size g) false
def BB{cp:Wl}{i:SC}{N:Nat}(t:∀f cf,cp f=some cf->fo cf=true)(c:Dn cp i N){n f:Nat}{args:List FV}{a:Value}{g:Nat}(h:nz cp i N n 0 f args (.mk 0 .e) (M4 a g)=true)(q:(toL args).all gT=true)(v:∀k:Mv,QT k a=a) :
  ∀m,n+N<=m->∀(lo:Nat) (H:Heap),lo<=H.length->∃G:Heap,G.length=g/\run cp m lo f (toL args) H=some (.inl a,H++G):=by
 have⟨x,y,j,d,w,o⟩:=kF c n _ _ _ _ _ _ Bh h;have⟨b,p⟩:=dh o;have l:toV x=a:=tN b;rw[l]at d b;have r:j.length=g:=by grind[Nat.eq_of_beq_eq_true,RH.size]
 have:=FN t q (λk u s=>(JV b s).trans<|v k) d;simp_all
def Js(N:Nat)(c1 c2:Wl):Prop:=∀f cf,c1 f=some cf->c2 f=some cf\/cf.kind=.plain/\∀n lo args H r,run c1 (n+1) lo f args H=some r->∀m,N<=m->run c2 m lo f args H=some r
theorem qb{N:Nat}{d i:Wl}(p:Js N d i){a b:CallR}(l:CLeR a b){lo n m:Nat}(o:n<=m){g:FuncId}{args:XV}{j:Value}{H H':Heap}(h:jv d a lo n g args j H=some H'):jv i b lo m g args j H=some H':=by
 have c:=yT (cp:=d) l o h;unfold jv at c ⊢;cases f:d g with
 | none=>simp_all
 | some k=>
  rcases p g k f with e|⟨e,-⟩
  all_goals simp_all
def AP{N:Nat}{e o:Wl}(d:Js N e o):∀n,CLeR (run e n)<|run o<|n+N
 | 0=>λ_ _ _ _ _ h=>by simp[run]at h
 | n+1=>λlo f args H r h=>by
  have g:=AP d n;have c:n<=n+N:=Nat.le_add_right _ _;cases k:e f with
  | none=>grind[run]
  | some cf=>
  rcases d f cf k with i|⟨-,i⟩;rotate_left
  .grind
  rw[show n+1+N=(n+N)+1 by omega];simp[run]at h ⊢;rw[i];rw[k]at h;simp only at h ⊢;split at h<;>try simp at h;done
  rename_i s;simp[s,if_true];split at h
  .split at h
   next m l a=>
    rw[bj g c _ _ _ _ a];exact h
   next m l a=>
    rw[bj g c _ _ _ _ a];exact h
   next j q m l a=>
    rw[bj g c _ _ _ _ a];exact h
   .grind
  .have a:=yS (cp:=e) g c h
   unfold iT at a ⊢;split at a
   .exact a
   .exact a
   .split at a<;>try simp at a;done
    split at a<;>try simp at a;done
    split at a
    .split at a<;>try simp at a;done
     rename_i b;simp[qb d (λ_ _ _ _ _ h=>h) (Nat.le_refl _) b];exact a
    .split at a<;>try simp at a
     rename_i b;simp[qb d (λ_ _ _ _ _ h=>h) (Nat.le_refl _) b];exact a
    .split at a<;>try simp at a
     rename_i p;split at a<;>try simp at a
     rename_i b;simp[if_pos p,qb d (λ_ _ _ _ _ h=>h) (Nat.le_refl _) b];exact a
    .grind
   .grind
  all_goals omega
theorem Ev.subO{N:Nat}{a b:Wl}(e:Js N a b){lo:Nat}{f:FuncId}{args:XV}{H:Heap}{R:Wq}(h:Ev a lo f args H R):Ev b lo f args H R:=by have⟨M,v,H',c,d⟩:=h;refine⟨M+N,v,H',λn g=>?_,d⟩;have:=AP e (n-N) _ _ _ _ _<|c (n-N) byO;rwa [Nat.sub_add_cancel byO]at this
end Go.Abs
namespace Go.Proofs.YtgiojnobcjnibaaGreatDoor
def wy0:XN:=[0,0,0,0,0,0,0,0,0,0,0,0,0,0,0,0,0,0,0,0,0,0,0,0,0,0,0,0,0,0,0,0,0,0,0,0,0,0,0,0,0,0,0,0,0,0,0,0,0,0,0,0,0,0,0,0,0,0,0,0,0,0,0,0,0,0,0,0,0,0,0,0,1,0,0,0,0,0,0,0,0,4,2,0,0,0,0,0,0,2,14,8,3,0,0,0,0,3,8,36,26,12,4,0,0,4,12,26,84,64,38,16,5,5,16,38,64,172,142,92,50,26,26,50,92,142,326,280,200,125,86,86,125,200,280,572,510,392,278,218,218,278,392,510,945,867,710,554,470,470,554,710,867,1484,1392,1202,1002,902,902,1002,1202,1392]
def wy1:XN:=[0,0,0,0,0,0,0,0,0,0,0,0,0,0,0,0,0,0,0,0,0,0,0,0,0,0,0,0,0,0,0,0,0,0,0,0,0,0,0,0,0,0,0,0,0,0,0,0,0,0,0,0,0,0,0,0,0,0,0,0,0,0,0,0,0,0,0,0,0,0,0,1,1,0,0,0,0,0,0,2,4,4,1,0,0,0,0,3,8,12,12,4,1,0,0,4,12,23,28,28,12,4,1,5,16,34,52,58,58,28,12,10,21,45,76,104,108,108,58,33,36,60,100,150,188,184,184,112,78,93,134,196,268,310,292,295,200,162,195,260,348,436,476,435,447,335,296,360,455,560,660,686,618,648,522,494,602,720,836,935,941,840]
def wy2:XN:=[0,0,0,0,0,0,0,0,0,0,0,0,0,0,0,0,0,0,0,0,0,0,0,0,0,0,0,0,0,0,0,0,0,0,0,0,0,0,0,0,0,0,0,0,0,0,0,0,0,0,0,0,0,0,0,0,0,0,0,0,0,0,1,1,0,0,0,0,0,0,2,3,3,1,0,0,0,0,3,6,8,8,3,1,0,0,4,9,15,16,16,8,3,1,5,12,22,29,30,30,16,8,9,16,29,42,52,50,50,30,21,26,39,55,74,84,77,77,54,45,57,74,96,118,124,111,114,89,84,102,126,152,171,172,151,160,138,135,165,195,216,233,225,199,217,195,201,243,270,288,297,284,252,276,262,276,321,348,357,363,342,311]
def wy3:XN:=[0,0,0,0,0,0,0,0,0,0,0,0,0,0,0,0,0,0,0,0,0,0,0,0,0,0,0,0,0,0,0,0,0,0,0,0,0,0,0,0,0,0,0,0,0,1,0,0,0,0,0,0,0,0,3,1,0,0,0,0,0,0,1,7,3,1,0,0,0,0,1,3,13,7,3,1,0,0,1,3,7,22,13,7,3,1,1,3,7,13,34,22,13,7,4,4,7,13,22,47,34,22,13,10,10,13,22,34,61,47,34,22,19,19,22,34,47,74,61,47,34,31,31,34,47,61,86,74,61,46,46,46,46,61,74,95,86,73,58,61,61,58,73,86,101,94,83,67,73,73,67,83,94,104,98,88,73,79,79,73,88,98]
def wy4:XN:=[0,0,0,0,0,0,0,0,0,0,0,0,0,0,0,0,0,0,0,0,0,0,0,0,0,0,0,0,0,0,0,0,0,0,0,0,1,0,0,0,0,0,0,0,0,2,1,0,0,0,0,0,0,1,4,2,1,0,0,0,0,1,2,6,4,2,1,0,0,1,2,4,9,6,4,2,1,1,2,4,6,12,9,6,4,3,3,4,6,9,14,12,9,6,6,6,6,9,12,16,14,12,9,9,9,9,12,14,17,16,14,12,12,12,12,14,16,18,17,16,13,15,15,13,16,17,18,18,16,14,16,16,14,16,18,18,17,16,13,15,15,13,16,17,17,16,14,12,12,12,12,14,16,16,14,12,9,9,9,9,12,14]
def wy5:XN:=[0,0,0,0,0,0,0,0,0,0,0,0,0,0,0,0,0,0,0,0,0,0,0,0,0,0,0,0,0,0,0,0,0,0,0,1,0,0,0,0,0,0,0,1,2,0,0,0,0,0,0,1,2,3,0,0,0,0,0,1,2,3,4,0,0,0,0,1,2,3,4,5,0,0,0,1,2,3,4,5,6,0,0,0,2,3,4,5,6,5,0,0,0,3,4,5,6,5,4,0,0,0,4,5,6,5,4,3,0,0,0,5,6,5,4,3,2,0,0,0,6,5,4,3,2,1,0,0,0,5,4,3,2,1,0,0,0,0,4,3,2,1,0,0,0,0,0,3,2,1,0,0,0,0,0,0,2,1,0,0,0,0]
def wy6:XN:=[0,0,0,0,0,0,0,0,0,0,0,0,0,0,0,0,0,0,0,0,0,0,0,0,0,0,1,0,0,0,0,0,0,0,1,1,0,0,0,0,0,0,1,1,1,0,0,0,0,0,1,1,1,1,0,0,0,0,1,1,1,1,1,0,0,0,1,1,1,1,1,1,0,0,0,1,1,1,1,1,0,0,0,0,1,1,1,1,0,0,0,0,0,1,1,1,0,0,0,0,0,0,1,1,0,0,0,0,0,0,0,1,0,0,0,0,0,0,0,0,0,0,0,0,0,0,0,0,0,0,0,0,0,0,0,0,0,0,0,0,0,0,0,0,0,0,0,0,0,0,0,0,0,0,0,0,0,0,0,0,0,0]
def wy7:XN:=[0,0,0,0,0,0,0,0,0,1,0,0,0,0,0,0,0,0,1,0,0,0,0,0,0,0,0,1,0,0,0,0,0,0,0,0,1,0,0,0,0,0,0,0,0,1,0,0,0,0,0,0,0,0,1,0,0,0,0,0,0,0,0,0,0,0,0,0,0,0,0,0,0,0,0,0,0,0,0,0,0,0,0,0,0,0,0,0,0,0,0,0,0,0,0,0,0,0,0,0,0,0,0,0,0,0,0,0,0,0,0,0,0,0,0,0,0,0,0,0,0,0,0,0,0,0,0,0,0,0,0,0,0,0,0,0,0,0,0,0,0,0,0,0,0,0,0,0,0,0,0,0,0,0,0,0,0,0,0,0,0,0]
def wy8:XN:=[1,0,0,0,0,0,0,0,0,0,0,0,0,0,0,0,0,0,0,0,0,0,0,0,0,0,0,0,0,0,0,0,0,0,0,0,0,0,0,0,0,0,0,0,0,0,0,0,0,0,0,0,0,0,0,0,0,0,0,0,0,0,0,0,0,0,0,0,0,0,0,0,0,0,0,0,0,0,0,0,0,0,0,0,0,0,0,0,0,0,0,0,0,0,0,0,0,0,0,0,0,0,0,0,0,0,0,0,0,0,0,0,0,0,0,0,0,0,0,0,0,0,0,0,0,0,0,0,0,0,0,0,0,0,0,0,0,0,0,0,0,0,0,0,0,0,0,0,0,0,0,0,0,0,0,0,0,0,0,0,0,0]
def wyL:Nat->XN
 | 0=>wy0
 | 1=>wy1
 | 2=>wy2
 | 3=>wy3
 | 4=>wy4
 | 5=>wy5
 | 6=>wy6
 | 7=>wy7
 | _=>wy8
def tabL:XN:=wy0++(wy1++(wy2++(wy3++(wy4++(wy5++(wy6++(wy7++wy8)))))))
open Go.Abs
def qF:E:=.node (.bin .eql)<|.cons (.node (.fld 0 1 false)<|.cons (.node (.ext 0)<|.cons (.var 3) .nil) .nil)<|.cons (.node (.ld 1 false)<|.cons (.var 1) .nil) .nil
def kU:E:=.pick (.node (.eqA false [])<|.cons (.node (.ext 0)<|.cons (.node (.tas 149 [])<|.cons (.var 0) .nil) .nil)<|.cons (.cst<|.agg #[]) .nil) (.pick (.node (.bin .eql)<|.cons (.node (.ld 1 false)<|.cons (.var 1) .nil)<|.cons (.cst<|.int .i64 0) .nil) (.cst<|.bool false)<|.cst<|.bool false)<|.node .len<|.cons (.var 3) .nil
def CT:CF:=⟨2,4,[.var 2],.seq (.sets [(3,.node (.tas 153 [.int .i64 0,.int .i64 0,.int .i64 0,.slice none 0 0])<|.cons (.var 0) .nil)] [])<|.sets [(2,.pick (.node (.ext 1)<|.cons (.var 3) .nil) (.pick (.node (.bin .eql)<|.cons (.node (.fld 0 1 false)<|.cons (.node (.ext 0)<|.cons (.var 3) .nil) .nil)<|.cons (.cst<|.int .i64 0) .nil) qF qF)<|.pick (.node (.ext 1)<|.cons (.node (.tas 149 [])<|.cons (.var 0) .nil) .nil) kU<|.node .len<|.cons (.var 3) .nil)] [],.plain⟩
def CR:CF:=⟨0,1,[.var 0],.seq (.hv [] [] [] (some 0) (.alloc<|tabL.map λn=>.int .i64<|.ofNat n) .nil)<|.hv [] [] [] none (.st 1)<|.cons (.var 0)<|.cons (.cst<|.int .i64 0) .nil,.plain⟩
noncomputable def cpS(f:FuncId):Option CF:=if f=91 then some CT else cp f
noncomputable def cpO(f:FuncId):Option CF:=if f=23 then some CR else if f=238\/f=246\/f=247\/f=273 then none else cpS f
open Go.Shelf
structure Kp8 (w w':World):Prop where
 size:w.heap.size<=w'.heap.size
 block:∀b,b<w.heap.size->w'.heap[b]?=w.heap[b]?
 os:w'.os=w.os
 out:w'.output=w.output
def Es (a : Value) : ∀ w, Sem.run Tryz.prog (method 426 153 a "barscan/stacked.numbered") w = .ok (264, a) w := fun _ => by kernel_rfl
set_option maxRecDepth 100000 in
def QW(a b:Int)(l:XV)(w:World) :
  Calls Tryz.prog 264 #[.agg ⟨.int .i64 a::l⟩,.int .i64 b] w λe w'=>e=.returned (.bool<|a==b)/\Kp8 w w':=by
 go_wp2
 go_ret
 have k:=Go.Joins.below_alloc1 w<|.cells ⟨Value.int IntKind.i64 a::l⟩ 153;exact⟨rfl,k.size,k.block,k.os,k.output⟩
set_option maxRecDepth 100000 in
def Oo(a b:Int)(l:XV)(p:Addr)(w:World)(g:w.cell? p=some (.int .i64 b)) :
  Calls Tryz.prog 91 #[.iface 153<|.agg ⟨.int .i64 a::l⟩,.pointer<|some p] w λe w'=>e=.returned (.bool<|a==b)/\Kp8 w w':=by
 have f:=QW a b l
 go_enter Tryz.func91,Tryz.ntmps91
 go_wp2_with (refine(f _).mono ?_;rintro e w' ⟨rfl,d⟩)
 go_ret
 simp_all
def BY (a : Value) : ∀ w, Sem.run Tryz.prog (method 426 149 a "barscan/stacked.numbered") w = .ok (263, a) w := fun _ => by kernel_rfl
set_option maxRecDepth 100000 in
def L8(b:Int)(w:World) :
  Calls Tryz.prog 263 #[.agg ⟨[]⟩,.int .i64 b] w λe w'=>e=.returned (.bool false)/\Kp8 w w':=by
 go_wp2
 go_ret
 have k:=Go.Joins.below_alloc1 w<|.cells ⟨[]⟩ 149;exact⟨rfl,k.size,k.block,k.os,k.output⟩
set_option maxRecDepth 100000 in
def KJ(b:Int)(p:Addr)(w:World)(f:w.cell? p=some (.int .i64 b)) :
  Calls Tryz.prog 91 #[.iface 149<|.agg ⟨[]⟩,.pointer<|some p] w λe w'=>e=.returned (.bool false)/\Kp8 w w':=by
 have d:=L8 b
 go_enter Tryz.func91,Tryz.ntmps91
 go_wp2_with (refine(d _).mono ?_;rintro e w' ⟨rfl,c⟩)
 go_ret
 simp_all
def g91:XV->Heap->Option Value
 | [.iface 149<|.agg ⟨[]⟩,.pointer<|some ⟨i,o,none⟩],H=>match (H.cells i o 1).bind (·.head?)with
  | some (.int .i64 _)=>some<|.bool false
  | _=>none
 | [.iface 153<|.agg ⟨.int .i64 a::_⟩,.pointer<|some ⟨i,o,none⟩],H=>match (H.cells i o 1).bind (·.head?)with
  | some (.int .i64 b)=>some<|.bool<|a==b
  | _=>none
 | _,_=>none
def Qa:xF Tryz.prog 91 2 g91:=by
 refine⟨⟨_,Tryz.func91,Wd,Wd⟩,?_⟩;intro x args H v L f φ w cargs K d;have z:∀{t:Bool} {e:Ending} {w':World},e=.returned (.bool t)/\Kp8 w w'->∃J A,e=.returned J/\VRel A (.bool t) J/\Eff φ x Tryz.prog.globals.size H.length H w A H w':=by
  rintro t e w' ⟨rfl,k⟩;exact⟨_,φ,rfl,.bool _,⟨Map.le_refl φ,K.ext k.size k.block,Heap.keeps_refl H,k.size,λb c _=>k.block b c,λi p R j=>by rw[R]at j;simp at j,k.os,k.out⟩⟩
 have g:∀{i o:Nat} {p:Abs.Place} {b:Int},φ.c i=some p->(H.cells i o 1).bind (·.head?)=some (.int .i64 b)->w.cell? ⟨p.b,p.s+o,none⟩=some (.int .i64 b):=by
  intro i o p b j c;cases G:H.cells i o 1 with
  | none=>rw[G]at c;cases c
  | some l1=>
   rw[G]at c;have⟨X,l',C,m⟩:=K.crel.cells G j;cases l1 with
   | nil=>cases c
   | cons y ys=>
    cases c;obtain⟨Y,W,rfl,S,-⟩:=C.of_cons;cases S;exact m 0 _ rfl
 unfold g91 at f;split at f
 next i o=>
  split at f
  next b c=>
   cases f;obtain⟨O,U,rfl,q,d⟩:=d.of_cons;obtain⟨P,I,rfl,r,d⟩:=d.of_cons;have n:I=[]:=List.length_eq_zero_iff.1 d.1.symm;subst n;cases q with
   | iface t v V F=>
    cases F with
    | agg N B D M=>
     have⟨s⟩:=B;cases s with
     | cons u s=>simp at D
     | nil=>
      cases r with
      | ptr i o p j=>exact(KJ b _ w<|g j c).mono λe w' h=>z h
  .cases f
 next a l i o=>
  split at f
  next b c=>
   cases f;obtain⟨O,U,rfl,q,d⟩:=d.of_cons;obtain⟨P,I,rfl,r,d⟩:=d.of_cons;have n:I=[]:=List.length_eq_zero_iff.1 d.1.symm;subst n;cases q with
   | iface t v V F=>
    cases F with
    | agg N B D M=>
     have⟨s⟩:=B;cases s with
     | nil=>simp at D
     | cons u s=>
      have Q:=M 0 _ u rfl rfl;cases Q;cases r with
      | ptr i o p j=>exact(Oo a b s _ w<|g j c).mono λe w' h=>z h
  .cases f
 .cases f
def TE{m:Wl}(s:m 91=some CT)(n lo:Nat)(args:XV)(H:Heap)(r:Value ⊕ Value)(H':Heap)(y:args.length=2)(h:run m (n+1) lo 91 args H=some (r,H')):∃v,r=.inl v/\H'=H/\g91 args H=some v:=by
 match args,y with
 | [x,p],_=>
 unfold run at h;rw[s]at h;simp[CT,ak₀,an₀,exec,evSets,ev1]at h;cases x with
 | iface t v=>
  cases v with
  | agg q=>
   have⟨q⟩:=q;by_cases e:153=t
   .subst e
    cases q with
    | nil=>simp[ev,aG,setAll,evChk,evList,ev1,qF]at h
    | cons c l=>
     cases c with
     | int k a=>
      by_cases g:k=.i64
      .subst g
       cases f:(a==0)
       all_goals
        cases p with
        | pointer j=>
         cases j with
         | none=>simp[ev,aG,setAll,evChk,evList,ev1,qF,aZ,az,f]at h
         | some j=>
          have⟨i,o,z⟩:=j;cases z with
          | some z=>simp[ev,aG,setAll,evChk,evList,ev1,qF,aZ,az,f]at h
          | none=>
           cases d:(H.cells i o 1).bind (·.head?)with
           | none=>simp[ev,aG,setAll,evChk,evList,ev1,qF,aZ,az,f,d]at h
           | some u=>
            cases u with
            | int k b=>
             by_cases g:.i64=k
             .subst g
              simp[ev,aG,setAll,evChk,evList,ev1,qF,aZ,az,f,d,aR]at h;exact⟨_,h.1.symm,h.2.symm,by simp[g91,d]⟩
             .simp[ev,aG,setAll,evChk,evList,ev1,qF,aZ,az,f,d,g]at h
            | _=>simp[ev,aG,setAll,evChk,evList,ev1,qF,aZ,az,f,d]at h
        | _=>simp[ev,aG,setAll,evChk,evList,ev1,qF,aZ,az,f]at h
      .simp[ev,aG,setAll,evChk,evList,ev1,qF,aZ,g]at h
     | _=>simp[ev,aG,setAll,evChk,evList,ev1,qF,aZ]at h
   .by_cases w:149=t
    .subst w
     cases q with
     | cons c l=>simp[ev,aG,setAll,evChk,evList,ev1,kU,aN]at h
     | nil=>
      cases p with
      | pointer j=>
       cases j with
       | none=>simp[ev,aG,setAll,evChk,evList,ev1,kU,aN]at h
       | some j=>
        have⟨i,o,z⟩:=j;cases z with
        | some z=>simp[ev,aG,setAll,evChk,evList,ev1,kU,aN]at h
        | none=>
         cases d:(H.cells i o 1).bind (·.head?)with
         | none=>simp[ev,aG,setAll,evChk,evList,ev1,kU,aN,d]at h
         | some u=>
          cases u with
          | int k b=>
           by_cases g:k=.i64
           .subst g
            cases f:(b==0)
            all_goals
             simp[ev,aG,setAll,evChk,evList,ev1,kU,aN,aZ,az,f,d,aR]at h;exact⟨_,h.1.symm,h.2.symm,by simp[g91,d]⟩
           .simp[ev,aG,setAll,evChk,evList,ev1,kU,aN,aZ,d,g]at h
          | _=>simp[ev,aG,setAll,evChk,evList,ev1,kU,aN,aZ,d]at h
      | _=>simp[ev,aG,setAll,evChk,evList,ev1,kU,aN]at h
    .simp[ev,aG,setAll,evChk,evList,ev1,e,w]at h
  | _=>simp[ev,aG]at h
 | nilIface=>simp[ev,aG,setAll,evChk]at h
 | _=>simp[ev,aG]at h
def Ui:((List.range 300).all λf=>(cpO f).all fo)=true:=Wf
theorem PD(f:Nat)(a:300<=f):cp f=none:=by
 unfold cp;have h:18<=f/16:=byO;generalize f/16=g at h;split
 all_goals first|rfl|omega
def uT(f:FuncId)(cf:CF)(h:cpO f=some cf):fo cf=true:=by
 by_cases a:f<300
 .have:=List.all_eq_true.1 Ui f<|List.mem_range.2 a
  rw[h]at this;exact this
 .exfalso
  have a:300<=f:=Nat.le_of_not_lt a;unfold cpO cpS at h;rw[if_neg (show ¬ f=23 from λe=>by rw[e]at a;exact absurd a Wd),if_neg (show ¬ f=91 from λe=>by rw[e]at a;exact absurd a Wd),PD f a]at h;split at h<;>cases h
def rsN(k c w:Nat):Nat:=if k=0\/k=4 then(c+9-w)%9 else if k=2\/k=6 then(c+w)%9 else c
def bhd(k s c w:Nat):Nat:=if s<w then 0 else(wyL<|k+1).getD (9*(s-w)+rsN k c w) 0
def cE(k s c:Nat):Nat->Nat
 | 0=>0
 | m+1=>cE k s c m+bhd k s c (m+1)
def wyN(k s c:Nat):Nat:=(wyL k).getD (9*s+c) 0
def yR(k:Nat):Bool:=(List.range 18).all λs=>(List.range 9).all λc=>Nat.beq (wyN k s c)<|cE k s c 6
def V5:yR 0=true:=Wf
def V6:yR 1=true:=Wf
def V7:yR 2=true:=Wf
def V8:yR 3=true:=Wf
def V9:yR 4=true:=Wf
def Va:yR 5=true:=Wf
def Vb:yR 6=true:=Wf
def Vc:yR 7=true:=Wf
theorem Dk{k s c:Nat}(d:k<8)(b:s<18)(a:c<9):wyN k s c=cE k s c 6:=by
 have h:yR k=true:=by
  have:k=0\/k=1\/k=2\/k=3\/k=4\/k=5\/k=6\/k=7:=byO;rcases this with rfl|rfl|rfl|rfl|rfl|rfl|rfl|rfl
  .exact V5
  .exact V6
  .exact V7
  .exact V8
  .exact V9
  .exact Va
  .exact Vb
  .exact Vc
 exact Nat.eq_of_beq_eq_true<|List.all_eq_true.1 (List.all_eq_true.1 h s<|List.mem_range.2 b) c<|List.mem_range.2 a
def WO{s c:Nat}(b:s<18)(a:c<9):wyN 8 s c=if s=0/\c=0 then 1 else 0:=by
 have h:((List.range 18).all λs=>(List.range 9).all λc=>Nat.beq (wyN 8 s c) (if s=0/\c=0 then 1 else 0))=true:=Wf
 exact Nat.eq_of_beq_eq_true<|List.all_eq_true.1 (List.all_eq_true.1 h s<|List.mem_range.2 b) c<|List.mem_range.2 a
def oc{k c w:Nat}(a:c<9):rsN k c w<9:=by unfold rsN;split<;>(try split)<;>omega
def E5{l:XN}{m:Nat}(h:(l.all λx=>Nat.ble x m)=true)(i:Nat):l.getD i 0<=m:=by
 rw[au₀];by_cases a:i<l.length
 .rw[bc₀ a]
  exact Nat.le_of_ble_eq_true<|List.all_eq_true.1 h _<|List.getElem_mem a
 .rw[av₀ byO];exact Nat.zero_le _
def RX(k i:Nat):(wyL k).getD i 0<=1000000:=by refine E5 ?_ i;unfold wyL;split<;>kernel_rfl
def sV(k s c w:Nat):bhd k s c w<=1000000:=by
 unfold bhd;split
 .exact Nat.zero_le _
 .exact RX _ _
def nm(k s c:Nat):∀m,cE k s c m<=1000000*m
 | 0=>Nat.le_refl _
 | m+1=>by
  have a:=nm k s c m;have b:=sV k s c<|m+1;simp[cE];omega
set_option maxRecDepth 20000
def cpT(f:FuncId):Option CF:=if f=23 then some GV else if f=59 then some GW else if f=60 then some GX else if f=61 then some GY else none
def y6:Sub cpT cp:=λf cf h=>by
 unfold cpT at h;split at h
 next e=>subst e;exact h
 split at h
 next e=>subst e;exact h
 split at h
 next e=>subst e;exact h
 split at h
 next e=>subst e;exact h
 cases h
def Q8(f:FuncId)(cf:CF)(h:cpT f=some cf):fo cf=true:=by
 unfold cpT at h;split at h
 .cases h;kernel_rfl
 split at h
 .cases h;kernel_rfl
 split at h
 .cases h;kernel_rfl
 split at h
 .cases h;kernel_rfl
 cases h
def W5{lo:Nat}{H:Heap}{R:Wq}(h:wpS cpT lo O2 (gB GV R) [undef,undef,undef,undef,undef,undef,undef,undef,undef,undef,undef,undef] H):Ev cpT lo 23 [] H R:=kh (cf:=GV) rfl rfl rfl h
def W7{lo:Nat}{H:Heap}{R:Wq}{a b c d e:Value}(h:wpS cpT lo O7 (gB GW R) [a,b,c,d,e,undef,undef,undef] H):Ev cpT lo 59 [a,b,c,d,e] H R:=kh (cf:=GW) rfl rfl rfl h
def W8{lo:Nat}{H:Heap}{R:Wq}{a b c:Value}(h:wpS cpT lo O8 (gB GX R) [a,b,c,undef,undef,undef,undef] H):Ev cpT lo 60 [a,b,c] H R:=kh (cf:=GX) rfl rfl rfl h
def W9{lo:Nat}{H:Heap}{R:Wq}{a b:Value}(h:wpS cpT lo O9 (gB GY R) [a,b,undef] H):Ev cpT lo 61 [a,b] H R:=kh (cf:=GY) rfl rfl rfl h
open XCSb
def OH{lo:Nat}{H:Heap}{k c w:Nat}(j:k<8)(i:c<9)(l:w<=6):Ev cpT lo 60 [.int .i64 k,.int .i64 c,.int .i64 w] H λr H'=>H'=H/\r=.int .i64 ((rsN k c w:Nat):Int):=by
 have d:((c:Nat):Int)-(w:Nat)+9=((c+9-w:Nat):Int):=byO;have e:((c+9-w:Nat):Int).tmod 9=((( c+9-w)%9:Nat):Int):=rfl;have f:((c:Nat):Int)+(w:Nat)=((c+w:Nat):Int):=byO;have g:((c+w:Nat):Int).tmod 9=(((c+w)%9:Nat):Int):=rfl;unfold rsN;apply W8;unfold O8 GX;simp[kB,aC];refine aF ?_;apply kA (λS H'=>H=H'/\∃(z:Nat->Value),S=[.int .i64 k,.int .i64 c,.int .i64 w,z 3,.int .i64 k,.bool<|decide<|k=0\/k=4,z 6])
 .refine eD ?_ ?_<;>intro h
  .have a:decide (k=0\/k=4)=true:=by simp[af₀]at h ⊢;omega
   have b:decide (((k:Nat):Int)=0)=true:=h;clear h;rw[a];exact⟨We,aH (by rw[b];rfl)⟩
  .have a:decide (k=0\/k=4)=decide (((k:Nat):Int)=4):=by
    simp[ai₀]at h;rw[decide_eq_decide];omega
   clear h;rw[a];refine aF ?_;exact⟨We,aH rfl⟩
 rintro S H' ⟨rfl,z,rfl⟩;refine eD ?_ ?_<;>intro h
 .have a:k=0\/k=4:=Wy
  clear h;rw[if_pos a];clear a;refine aF ?_;refine bD ?_;exact⟨rfl,rfl⟩
 have a:¬ (k=0\/k=4):=Wy
 clear h;rw[if_neg a];refine aF ?_;apply kA (λS H'=>H=H'/\∃(z:Nat->Value),S=[.int .i64 k,.int .i64 c,.int .i64 w,z 3,.int .i64 k,z 5,.bool<|decide<|k=2\/k=6])
 .refine eD ?_ ?_<;>intro h
  .have a:decide (k=2\/k=6)=true:=by simp[af₀]at h ⊢;omega
   have b:decide (((k:Nat):Int)=2)=true:=h;clear h;rw[a];exact⟨We,aH (by rw[b];rfl)⟩
  .have a:decide (k=2\/k=6)=decide (((k:Nat):Int)=6):=by
    simp[ai₀]at h;rw[decide_eq_decide];omega
   clear h;rw[a];refine aF ?_;exact⟨We,aH rfl⟩
 rintro S H' ⟨rfl,z,rfl⟩;refine eD ?_ ?_<;>intro h
 .have b:k=2\/k=6:=Wy
  clear h;rw[if_pos b];clear a b;refine aF ?_;refine bD ?_;exact⟨rfl,rfl⟩
 have b:¬ (k=2\/k=6):=Wy
 clear h;rw[if_neg b];clear a b;refine aF ?_;refine bD ?_;exact⟨rfl,rfl⟩
def ptN(k w:Nat):Nat:=if k%2=1 then 0 else if k%4=0 then w else 9-w
theorem OB{k c w:Nat}(b:k<8)(a:c<9)(d:w<=6):(c+9-ptN k w)%9=rsN k c w:=by unfold ptN rsN;have:k=0\/k=1\/k=2\/k=3\/k=4\/k=5\/k=6\/k=7:=byO;rcases this with rfl|rfl|rfl|rfl|rfl|rfl|rfl|rfl<;>simp<;>omega
def Io{lo:Nat}{H:Heap}{k w:Nat}(e:k<100)(f:w<=6):Ev cpT lo 61 [.int .i64 k,.int .i64 w] H λr H'=>H'=H/\r=.int .i64 ((ptN k w:Nat):Int):=by
 have b:((k:Nat):Int).tmod 2=((k%2:Nat):Int):=rfl;have c:((k:Nat):Int).tmod 4=((k%4:Nat):Int):=rfl;have d:(9:Int)-(w:Nat)=((9-w:Nat):Int):=byO;unfold ptN;generalize k%2=u at *;generalize k%4=v at *;apply W9;unfold O9 GY;simp[kB,aC];refine aF ?_;refine eD ?_ ?_<;>intro h
 .have a:u=1:=Xx
  rw[if_pos a];refine aF ?_;refine bD ?_;exact⟨rfl,rfl⟩
 have a:¬ (u=1):=Xy
 rw[if_neg a];(try simp[aC]);refine eD ?_ ?_<;>intro h
 .have a:v=0:=Xx
  rw[if_pos a];refine aF ?_;refine bD ?_;exact⟨rfl,rfl⟩
 have a:¬ (v=0):=Xy
 rw[if_neg a];refine aF ?_;refine bD ?_;exact⟨rfl,rfl⟩
def DL{lo:Nat}{H:Heap}{k w:Nat}(b:k<8)(a:w<=6):Ev cpT lo 61 [.int .i64 k,.int .i64 w] H λr H'=>H'=H/\r=.int .i64 ((ptN k w:Nat):Int):=Io byO a
def OV(cs:XV)(k:Nat):Prop:=cs.length=1458/\∀i,i<162->cs[162*k+i]?=some (.int .i64 (((wyL k).getD i 0:Nat):Int))
def CM{lo b:Nat}{H:Heap}{f:XV}{k s c w:Nat}(v:H.get b=some f)(e:OV f<|k+1)(j:k<8)(x:s<18)(g:c<9)(n:w<=6)(o:1<=w) :
  Ev cpT lo 59 [.pointer<|some ⟨b,0,none⟩,.int .i64 k,.int .i64 s,.int .i64 c,.int .i64 w] H λr H'=>H'=H/\r=.int .i64 ((bhd k s c w:Nat):Int):=by
 have i:=e.1;unfold bhd;apply W7;unfold O7 GW;simp only[kB,aC];refine aF ?_;refine eD ?_ ?_<;>intro h
 .have a:s<w:=Xx
  rw[if_pos a];refine aF ?_;refine bD ?_;exact⟨rfl,rfl⟩
 have a:¬ (s<w):=Xy
 rw[if_neg a];have l:=oc (k:=k) (c:=c) (w:=w) g;have d:=e.2 (9*(s-w)+rsN k c w) byO;have t:(((k:Nat):Int)+1).toNat=k+1:=byO;have u:(((s:Nat):Int)-(w:Nat)).toNat=s-w:=byO;have m:s-w<=17:=byO;rw[show 162*(k+1)+(9*(s-w)+rsN k c w)=(k+1)*162+(s-w)*9+rsN k c w by omega]at d;refine iU ?_;apply dz (OH j g n);rintro r K ⟨rfl,rfl⟩;generalize rsN k c w=q at *;generalize (wyL<|k+1).getD (9*(s-w)+q) 0=p at *;refine aF ?_;refine bD ?_;exact⟨rfl,rfl⟩
def rX{cp:Wl}{lo n:Nat}{vs:XV}{f:FuncId}{a b:Array Value}{args:XV}{H:Heap}{R:Wq}(e:vs.drop n=.func (.func f) a b::args)(h:Ev cp lo f (a.toList++args++b.toList) H λv H'=>(vs.take n).all (iI H H')=true/\R v H'):wpH cp lo (.callK n) vs H R:=by simp only[wpH,e];exact h
def zd{H H':Heap}{v:Value}{b:Nat}{c:XV}(e:aT v=some b)(a:H.get b=some c)(d:H'.get b=some c):iI H H' v=true:=by unfold iI;rw[e];exact oi.2 ⟨c,a,d⟩
def FZ(i:Nat):Nat:=(wyL<|i/162).getD (i%162) 0
def TabF(cs:XV)(f:Nat->Nat):Prop:=cs.length=1458/\∀i,i<1458->cs[i]?=some (.int .i64 ((f i:Nat):Int))
theorem TabF.set{b:XV}{f g:Nat->Nat}(h:TabF b f){j v:Nat}(c:j<1458)(e:∀i,i<1458->g i=if i=j then v else f i):TabF (b.set j<|.int .i64 v) g:=by
 refine⟨by rw[List.length_set];exact h.1,λi a=>?_⟩;rw[e i a];by_cases q:i=j
 .subst q;rw[List.getElem?_set_self (by rw[h.1];exact a),if_pos rfl]
 .rw[List.getElem?_set_ne λz=>q z.symm,if_neg q];exact h.2 i a
theorem TabF.congr{a:XV}{f g:Nat->Nat}(h:TabF a f)(e:∀i,i<1458->f i=g i):TabF a g:=⟨h.1,λi b=>by rw[<-e i b];exact h.2 i b⟩
def fP(k j i:Nat):Nat:=if 162*(k+1)<=i\/162*k<=i/\i<162*k+j then FZ i else 0
def fW(k j v i:Nat):Nat:=if i=162*k+j then v else fP k j i
theorem pd{k i:Nat}(a:i<162):FZ (162*k+i)=(wyL k).getD i 0:=by unfold FZ;rw[show(162*k+i)/162=k by omega,show(162*k+i)%162=i by omega]
def Hf{a:XV}{k j v:Nat}(h:TabF a<|fW k j v)(d:k<8)(c:j<162):OV a<|k+1:=by refine⟨h.1,λi b=>?_⟩;rw[h.2 _ byO];unfold fW fP;rw[if_neg byO,if_pos<|.inl byO,pd b]
def He{k s c:Nat}(d:k<8)(e:s<18)(b:c<9):∀i,i<1458->fW k (9*s+c) (cE k s c 6) i=fP k (9*s+c+1) i:=by
 intro i f;unfold fW fP;by_cases q:i=162*k+(9*s+c)
 .subst q
  rw[if_pos rfl,if_pos<|.inr ⟨byO,byO⟩,pd byO,<-Dk d e b];rfl
 .rw[if_neg q]
  by_cases a:162*(k+1)<=i\/162*k<=i/\i<162*k+(9*s+c)
  .rw[if_pos a,if_pos byO]
  .rw[if_neg a,if_neg byO]
def zI{k j:Nat}(a:j<162)(i:Nat):fP k j i=fW k j 0 i:=by
 unfold fW;split
 next e=>subst e;unfold fP;rw[if_neg byO]
 .rfl
def Hd{k:Nat}(i:Nat):fP (k+1) 162 i=fP k 0 i:=by
 unfold fP;by_cases q:162*(k+1)<=i
 .rw[if_pos byO,if_pos byO]
 .rw[if_neg byO,if_neg byO]
def tabV:XV:=tabL.map λn=>.int .i64<|.ofNat n
theorem y7:(List.range 1458).map FZ=tabL:=by
 have h:((List.range 1458).map FZ==tabL)=true:=Wf
 exact eq_of_beq h
def Da{a:XV}(h:TabF a<|fP 0 162):a=tabV:=by
 have c:tabL.length=1458:=by rw[<-y7];simp
 refine List.ext_getElem? λi=>?_;by_cases b:i<1458
 .rw[h.2 i b,tabV,az₀,<-y7,az₀,List.getElem?_range b]
  have:fP 0 162 i=FZ i:=by unfold fP;rw[if_pos byO]
  rw[this];rfl
 .rw[av₀ (by rw[h.1];omega),av₀ (by rw[tabV,ay₀,c];omega)]
def wy:TabF ((List.replicate 1458<|Value.int .i64 0).set 1296<|.int .i64 1)<|fP 7 0:=by
 refine TabF.set (f:=λ_=>0) (v:=1) ⟨Wc,λi a=>by rw[List.getElem?_replicate,if_pos a];rfl⟩ Wd λi a=>?_;unfold fP;by_cases q:1296<=i
 .rw[if_pos byO]
  obtain⟨t,rfl⟩:∃t,i=162*8+t:=⟨i-1296,byO⟩;rw[pd byO];have:=WO (s:=t/9) (c:=t%9) byO byO;unfold wyN at this;rw[show 9*(t/9)+t%9=t by omega]at this;rw[this];by_cases b:t=0
  .subst b;rfl
  .rw[if_neg byO,if_neg byO]
 .rw[if_neg byO,if_neg byO]
def ui(H:Heap)(x y:Option XV):(H++[x]).set H.length y=H++[y]:=Wc
def punT:XU:=[59,60,62,64,91,92,93,95,96,126,33,13,9,44,58,10,45,46,36,47,34,124,42,40,41,63,123,125,39]
def mixT:XU:=[48,49,50,51,52,53,54,55,56,57,38,13,9,44,58,35,45,46,36,47,43,37,42,61,94]
def stV(sub shift:Nat):Value:=.agg #[.int .i64 sub,.int .i64 shift]
def Gu(sub shift v:Nat):Nat×Nat:=
 if sub=0 then(if v=27 then(1,0) else if v=28 then(2,0) else(sub,1))
 else if sub=1 then(if v=27 then(1,2) else if v=28 then(2,0) else(sub,1))
 else if sub=2 then(if v=25 then(3,0) else if v=27 then(1,0) else if v=28 then(0,0) else(sub,1))
 else(0,0)
def IP(b v:Nat):Nat:=if v=26 then 32 else b+v
def rdS(sub shift v:Nat):Option<|Int×Nat×Nat:=
 if shift=1 then(if 29<=v then none else some (((punT.getD v 0).toNat:Int),sub,0))
 else if shift=2 then(if 26<v then none else some ((IP 65 v:Int),sub,0))
 else if sub=0/\v<=26 then some ((IP 65 v:Int),sub,0)
 else if sub=1/\v<=26 then some ((IP 97 v:Int),sub,0)
 else if sub=2/\v<25 then some (((mixT.getD v 0).toNat:Int),sub,0)
 else if sub=2/\v=26 then some (32,sub,0)
 else if sub=3/\v<29 then some (((punT.getD v 0).toNat:Int),sub,0)
 else some (-1,(Gu sub shift v).1,(Gu sub shift v).2)
def Iz(sub shift v:Nat):Value:=match rdS sub shift v with
 | some (c,a,b)=>.tuple #[stV a b,.int .i64 c,.bool true]
 | none=>.tuple #[stV sub shift,.int .i64<|-1,.bool false]
def Qb(lo:Nat)(H:Heap):run (λf=>if f=109 then some GS else none) 100 lo 109 [.int .i64 929] H=some (.inl<|.bool true,H):=Wf
end Go.Proofs.YtgiojnobcjnibaaGreatDoor
