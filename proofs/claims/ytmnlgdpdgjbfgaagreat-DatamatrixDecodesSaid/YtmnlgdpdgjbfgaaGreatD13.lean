/- Lemmas. -/
import Derived.Test.YtmnlgdpdgjbfgaaGreatD9
import Derived.Test.YtmnlgdpdgjbfgaaGreatD11
import Derived.Test.YtmnlgdpdgjbfgaaGreatD12
import Derived.KernelRfl
set_option linter.all false
namespace Go.Abs
def RS(F:FS)(S:List Value):Prop:=∃l,Rep F l/\S=toL l
theorem RS.get{F:FS}{S:List Value}(r:RS F S){j:Nat}{x:FV}(h:F.get j=some x):S[j]?=some (toV x):=by
 obtain⟨l,r,rfl⟩:=r;rw[r]at h;simp[fi,h]
theorem RS.set{F:FS}{S:List Value}(r:RS F S){j:Nat}{x:FV}{k:FS->Bool}(h:F.set j x k=true):∃F',k F'=true/\RS F' (S.set j (toV x)):=by
 obtain⟨l,r,rfl⟩:=r;obtain⟨F',h1,_,r1⟩:=T.set_rep r h;exact⟨F',h1,_,r1,by simp[fi]⟩
def QN(e:E):Prop:=∀{F:FS} {S:List Value} {A:FH} {H:Heap} {acc:List FV} {k:List FV->Bool},RS F S->RH A H->fev e F A acc k=true->∃xs,ev S H e=some (toL xs)/\k (xs++acc)=true
theorem xj{l:List FV}{a b:Bool}(h:isB l a b=true):(l=[.b true]/\a=true)\/(l=[.b false]/\b=true):=by
 obtain⟨x,rfl,h1⟩:=jG h;obtain⟨c,rfl,h2⟩:=(JF h1).resolve_right (by simp);refine dq h2 (fun hc h=>.inl ?_) (fun hc h=>.inr ?_)
 ·subst hc;exact⟨rfl,h⟩
 ·subst hc;exact⟨rfl,h⟩
theorem qN(e:E):QN e:=by
 induction e with
 | var j=>
  intro F S A H acc k rs rh h;obtain⟨x,hx,h1⟩:=ox h;exact⟨[x],by simp[ev,rs.get hx,kH],h1⟩
 | cst v=>
  intro F S A H acc k rs rh h;obtain⟨x,hx,h1⟩:=uP h;exact⟨[x],by simp[ev,kH,hx],h1⟩
 | nil=>intro F S A H acc k rs rh h;exact⟨[],rfl,h⟩
 | cons a b iha ihb=>
  intro F S A H acc k rs rh h;obtain⟨ys,h1,h2⟩:=ihb rs rh h;obtain⟨xs,h3,h4⟩:=iha rs rh h2;exact⟨xs++ys,by simp[ev,h1,h3,uo],by rw[List.append_assoc];exact h4⟩
 | node o a ih=>
  intro F S A H acc k rs rh h;obtain⟨xs,h1,h2⟩:=ih rs rh h;rw[List.append_nil]at h2;obtain⟨x,h3,h4⟩:=Cx rh h2;exact⟨[x],by simp[ev,h1,h3,kH],h4⟩
 | pick c a b ihc iha ihb=>
  intro F S A H acc k rs rh h;obtain⟨xs,h1,h2⟩:=ihc rs rh h;rw[List.append_nil]at h2;rcases xj h2 with ⟨rfl,h3⟩|⟨rfl,h3⟩
  ·obtain⟨ys,h4,h5⟩:=iha rs rh h3
   exact⟨ys,by simp[ev,h1,h4,kH,toV],h5⟩
  ·obtain⟨ys,h4,h5⟩:=ihb rs rh h3
   exact⟨ys,by simp[ev,h1,h4,kH,toV],h5⟩
theorem pM{e:E}{F:FS}{S:List Value}{A:FH}{H:Heap}(rs:RS F S)(rh:RH A H){k:FV->Bool}(h:xY e F A k=true):∃x,ev1 S H e=some (toV x)/\k x=true:=by
 obtain⟨xs,h1,h2⟩:=qN e rs rh h;rw[List.append_nil]at h2;obtain⟨x,rfl,h3⟩:=jG h2;exact⟨x,by simp[ev1,h1,kH],h3⟩
theorem qT{F:FS}{S:List Value}{A:FH}{H:Heap}(rs:RS F S)(rh:RH A H):∀(l:List (Nat×E)) {G:FS} {B:List Value} {k:FS->Bool},RS G B->yx l F A G k=true->∃vs G',evSets S H l=some vs/\RS G' (setAll B vs)/\k G'=true
 | [],G,B,k,rg,h=>⟨[],G,rfl,rg,h⟩
 | (j,e)::l,G,B,k,rg,h=>by
  obtain⟨x,h1,h2⟩:=pM rs rh (show xY e F A (fun v=>G.set j v fun A'=>yx l F A A' k)=true from h);obtain⟨G1,h3,r1⟩:=rg.set h2;obtain⟨vs,G2,h4,r2,h5⟩:=qT rs rh l r1 h3;exact⟨(j,toV x)::vs,G2,by simp[evSets,h1,h4],r2,h5⟩
theorem tg{F:FS}{S:List Value}{A:FH}{H:Heap}(rs:RS F S)(rh:RH A H):∀(l:List E) {k:Bool},Fa l F A k=true->evChk S H l=true/\k=true
 | [],k,h=>⟨rfl,h⟩
 | e::l,k,h=>by
  obtain⟨xs,h1,h2⟩:=qN e rs rh (show fev e F A [] (fun _=>Fa l F A k)=true from h);obtain⟨h3,h4⟩:=tg rs rh l h2;exact⟨by simp[evChk,h1,h3],h4⟩
theorem xe{F:FS}{S:List Value}{A:FH}{H:Heap}(rs:RS F S)(rh:RH A H):∀(l:PC) {y n:Bool},fpc l F A y n=true->(holds S H l=some true/\y=true)\/(holds S H l=some false/\n=true)
 | [],y,n,h=>.inl ⟨rfl,h⟩
 | (c,w)::l,y,n,h=>by
  obtain⟨xs,h1,h2⟩:=qN c rs rh (show fev c F A [] (fun t=>isB t (bB w (fpc l F A y n) n) (bB w n (fpc l F A y n)))=true from h);rw[List.append_nil]at h2;rcases xj h2 with ⟨rfl,h3⟩|⟨rfl,h3⟩
  ·cases w
   ·exact .inr ⟨by simp[holds,ev1,h1,kH,toV],h3⟩
   ·rcases xe rs rh l h3 with ⟨h4,h5⟩|⟨h4,h5⟩
    ·exact .inl ⟨by simp[holds,ev1,h1,kH,toV,h4],h5⟩
    ·exact .inr ⟨by simp[holds,ev1,h1,kH,toV,h4],h5⟩
  ·cases w
   ·rcases xe rs rh l h3 with ⟨h4,h5⟩|⟨h4,h5⟩
    ·exact .inl ⟨by simp[holds,ev1,h1,kH,toV,h4],h5⟩
    ·exact .inr ⟨by simp[holds,ev1,h1,kH,toV,h4],h5⟩
   ·exact .inr ⟨by simp[holds,ev1,h1,kH,toV],h3⟩
def wo(sem:Option (Value×Heap))(k:FV->FH->Bool):Prop:=∃x A' H',sem=some (toV x,H')/\RH A' H'/\k x A'=true
theorem sD{x:FV}{k:List FV->Bool}(h:xA x k=true):∃l,toL l=(toV x).cells.toList/\k l=true:=by
 rcases x with _|_|_|_|v
 ·exact⟨_,rfl,h⟩
 ·exact⟨_,rfl,h⟩
 ·exact⟨_,rfl,h⟩
 ·exact⟨_,rfl,h⟩
 ·exact ju h
theorem Bj{lo sz l c n:Nat}{new:List FV}{A:FH}{H:Heap}(rh:RH A H){k:FV->FH->Bool}(h:JL sz l c new n A k=true):wo (bA lo sz (.slice none l c) (toL new) n H) k:=by
 refine dq h (fun hb h=>?_) (fun hb h=>?_)
 ·rw[et]at h
  exact⟨_,A,H,by simp only[bA,if_pos (show l+n<=c from Nat.le_of_ble_eq_true hb)];rfl,rh,h⟩
 ·obtain⟨h1,h2⟩:=eJ h
  obtain⟨h3,h4⟩:=eJ h2;have h3:=Nat.eq_of_beq_eq_true h3;obtain⟨A',h5,r⟩:=j7 rh h4;rw[iD]at hb h1;simp only[ai₀,af₀]at hb h1;have hn:¬ dR<l+n:=by unfold dR;exact Nat.not_lt.2 h1
  exact⟨_,A',_,by simp only[bA,if_neg (show ¬ l+n<=c from hb),if_neg hn,if_pos h3];rfl,r,h5⟩
theorem Bk{lo sz b o l c n:Nat}{sp:Option Nat}{new:List FV}{A:FH}{H:Heap}(rh:RH A H){k:FV->FH->Bool}(h:OC lo sz b o l c sp new n A k=true):wo (bA lo sz (.slice (some ⟨b,o,sp⟩) l c) (toL new) n H) k:=by
 refine dq h (fun hb h=>?_) (fun hb h=>?_)
 ·rw[iD]at hb
  simp only[af₀]at hb;obtain⟨h1,h2⟩:=eJ h;have hs:sp=none\/sp=some sz:=by
   cases sp with
   | none=>exact .inl rfl
   | some z=>exact .inr (by rw[Nat.eq_of_beq_eq_true h1])
  obtain⟨A',H',h3,h4,r⟩:=Ez rh h2;rw[et]at h3;have h4:H.put lo b (o+l*sz) (toL new)=some H':=h4;exact⟨_,A',H',by simp only[bA,if_pos (show l+n<=c from hb),if_pos hs,h4];rfl,r,h3⟩
 ·rw[iD]at hb
  simp only[ai₀]at hb;obtain⟨h1,h2⟩:=eJ h;rw[iD]at h1;simp only[af₀]at h1;obtain⟨u,old,h3,r1,hg,hlt⟩:=p6 rh h2;have tail:∀{A2:FH} {H2:Heap},RH A2 H2->H2.length=H.length ->
    (fN (Nat.mul l sz) fun ln=>(fun(go:T FV->Bool)=>bB (Nat.beq o 0) (bB (Nat.beq ln old.length) (go u) (bB (Nat.ble ln old.length) (u.rd o ln [] fun l=>T.insL l 0 .e go) false)) (bB (Nat.ble (Nat.add o ln) old.length) (u.rd o ln [] fun l=>T.insL l 0 .e go) false)) fun t=>
     T.insL new ln t fun t=>fN (Nat.add ln new.length) fun m=>A2.push (.mk m t) fun c H=>fN (Nat.add l n) fun l=>k (.s c 0 l l (some sz)) H)=true ->
    ∃old',H.cells b o (l*sz)=some old'/\∃A',k (.s H.length 0 (l+n) (l+n) (some sz)) A'=true/\RH A' (H2++[some (old'++toL new)]):=by
   intro A2 H2 r2 hl h;rw[et]at h;have fin:∀{t:T FV} {c:List FV},Rep t c->c.length=l*sz->H.cells b o (l*sz)=some (toL c) ->
     (T.insL new (Nat.mul l sz) t fun t=>fN (Nat.add (Nat.mul l sz) new.length) fun m=>A2.push (.mk m t) fun c H=>fN (Nat.add l n) fun l=>k (.s c 0 l l (some sz)) H)=true ->
     ∃old',H.cells b o (l*sz)=some old'/\∃A',k (.s H.length 0 (l+n) (l+n) (some sz)) A'=true/\RH A' (H2++[some (old'++toL new)]):=by
    intro t c hr hc hh h;obtain⟨t2,h5,r5⟩:=T.insL_rep new hr (show Nat.mul l sz=c.length from hc.symm) h;simp only[et]at h5;obtain⟨A',h6,r6⟩:=uZ r2 (x:=.mk (Nat.add (Nat.mul l sz) new.length) t2) (y:=some (toL c++toL new)) ⟨c++new,r5,by rw[as₀,hc];rfl,(uo _ _).symm⟩ h5;rw[hl]at h6;exact⟨_,hh,A',h6,r6⟩
   have rd:∀{g:T FV->Bool},o+l*sz<=old.length->(u.rd o (Nat.mul l sz) [] fun l=>T.insL l 0 .e g)=true->∃t c,Rep t c/\c.length=l*sz/\H.cells b o (l*sz)=some (toL c)/\g t=true:=by
    intro g hle h;obtain⟨c,h5,h6,_,h7⟩:=T.rd_rep r1 o _ [] h;rw[List.append_nil]at h6;obtain⟨t,h8,r8⟩:=T.insL_rep c EL rfl h6;exact⟨t,c,by simpa using r8,h5,by subst h7;simp only[Heap.cells,hg,kI,if_pos hle];simp[fi],h8⟩
   refine dq h (fun hz h=>?_) (fun hz h=>?_)
   ·have hz:o=0:=Nat.eq_of_beq_eq_true hz
    subst hz;refine dq h (fun hm h=>?_) (fun hm h=>?_)
    ·have hm:l*sz=old.length:=Nat.eq_of_beq_eq_true hm
     refine fin r1 hm.symm ?_ h;simp only[Heap.cells,hg,kI,Nat.zero_add,if_pos (Nat.le_of_eq hm),List.drop_zero];rw[List.take_of_length_le (by rw[kI];omega)]
    ·obtain⟨h5,h6⟩:=eJ h
     obtain⟨t,c,q1,q2,q3,q4⟩:=rd (by rw[Nat.zero_add];exact Nat.le_of_ble_eq_true h5) h6;exact fin q1 q2 q3 q4
   ·obtain⟨h5,h6⟩:=eJ h
    obtain⟨t,c,q1,q2,q3,q4⟩:=rd (Nat.le_of_ble_eq_true h5) h6;exact fin q1 q2 q3 q4
  have hn:¬ dR<l+n:=by unfold dR;exact Nat.not_lt.2 h1
  cases sp with
  | none=>
   obtain⟨old',h4,A',h5,r5⟩:=tail rh rfl h3;exact⟨_,A',_,by simp only[bA,if_neg (show ¬ l+n<=c from hb),if_neg hn,h4];rfl,r5,h5⟩
  | some z=>
   obtain⟨hz,h4⟩:=eJ h3;obtain⟨hlo,h5⟩:=eJ h4;obtain⟨A2,h6,r6⟩:=zp rh (x:=.no) (y:=none) trivial h5;obtain⟨old',h7,A',h8,r8⟩:=tail r6 (by simp) h6;exact⟨_,A',_,by simp only[bA,if_neg (show ¬ l+n<=c from hb),if_neg hn,if_pos (zzi (Nat.eq_of_beq_eq_true hz) (Nat.le_of_ble_eq_true hlo)),h7];rfl,r8,h8⟩
theorem tS{lo sz n:Nat}{s:FV}{new:List FV}{A:FH}{H:Heap}(rh:RH A H){k:FV->FH->Bool}(h:vX lo sz s new n A k=true):wo (bA lo sz (toV s) (toL new) n H) k:=by
 rcases s with _|_|_|⟨b,o,l,c,sp⟩|v
 ·cases h
 ·cases h
 ·cases h
 ·exact Bk rh h
 ·cases v<;>try cases h
  case slice a l c=>
   cases a
   ·exact Bj rh h
   ·cases h
def FC(cf:kQ)(ca:CallR):Prop:=∀(lo f:Nat) (args:List FV) (A:FH) (H:Heap) (k:FV->FH->Bool),RH A H->cf lo f args A k=true->∃x A' H',ca lo f (toL args) H=some (.inl (toV x),H')/\RH A' H'/\k x A'=true
theorem vY{cf:kQ}{ca:CallR}(hc:FC cf ca){lo:Nat}{vs:List FV}{A:FH}{H:Heap}(rh:RH A H){k:FV->FH->Bool}{raise:Bool}(h:fCall raise cf lo vs A k=true) :
  ∃f first cap r,toL vs=.func (.func f) first cap::r/\wo (ca.ret (if raise then H.length else lo) f (first.toList++r++cap.toList) H) k:=by
 rcases vs with _|⟨x,r⟩
 ·cases h
 have e:fCall.bB' raise A.size lo=if raise then H.length else lo:=by rw[rh.size];cases raise<;>rfl
 obtain⟨v,rfl,h1⟩:=(vB h).resolve_right (by simp);cases v<;>try cases h1
 case func fn first cap=>
  cases fn<;>try cases h1
  case func f=>
   obtain⟨a,ha,h2⟩:=ju (show ofL first.toList (fun a=>ofL cap.toList fun c=>cf (fCall.bB' raise A.size lo) f (a++r++c) A k)=true from h1);obtain⟨c,hc',h3⟩:=ju h2;rw[e]at h3;obtain⟨y,A',H',h4,r4,h5⟩:=hc _ _ _ _ _ _ rh h3;refine⟨f,first,cap,toL r,rfl,y,A',H',?_,r4,h5⟩;simp only[uo,ha,hc']at h4;simp only[CallR.ret,h4]
theorem Cw{cf:kQ}{ca:CallR}(hc:FC cf ca){o:HOp}{lo:Nat}{vs:List FV}{A:FH}{H:Heap}(rh:RH A H){k:FV->FH->Bool}(h:JO o cf lo vs A k=true):wo (hsem ca.ret lo o (toL vs) H) k:=by
 cases o
 case call raise=>
  obtain⟨f,first,cap,r,h1,h2⟩:=vY hc rh (show fCall raise cf lo vs A k=true from h);rw[h1];exact h2
 case callC=>
  obtain⟨f,first,cap,r,h1,h2⟩:=vY hc rh (show fCall false cf lo vs A k=true from h);rw[h1];exact h2
 case alloc zero=>
  rcases vs with _|⟨x,r⟩
  ·obtain⟨l,h1,h2⟩:=ju (show ofL zero (fun l=>A.pushL l fun b H=>k (.p b 0) H)=true from h)
   obtain⟨A',h3,r3⟩:=j7 rh h2;rw[h1]at r3;exact⟨_,A',_,rfl,r3,h3⟩
  ·cases h
 case box=>
  obtain⟨x,rfl,h1⟩:=jG h;obtain⟨l,h2,h3⟩:=sD h1;obtain⟨A',h4,r4⟩:=j7 rh h3;rw[h2]at r4;exact⟨_,A',_,rfl,r4,h4⟩
 case mkSl zero=>
  obtain⟨x,y,rfl,h1⟩:=(qc h).resolve_right (by simp);obtain⟨kd,l,rfl,h2⟩:=(sA h1).resolve_right (by simp);obtain⟨kd',c,rfl,h3⟩:=(sA h2).resolve_right (by simp);obtain⟨hl,h4⟩:=eJ h3;obtain⟨hm,h5⟩:=eJ h4;have hl:l<=c:=Nat.le_of_ble_eq_true hl;have hm:c<=dR:=Nat.le_of_ble_eq_true hm;have key:∀{A':FH},RH A' (H++[some (bU zero c)])->k (.s H.length 0 l c none) A'=true->wo (hsem ca.ret lo (.mkSl zero) (toL [.i kd l,.i kd' c]) H) k:=by
   intro A' r h;refine⟨_,A',_,?_,r,h⟩;simp only[we,toV,hsem];rw[if_pos ⟨Int.natCast_nonneg _,Int.ofNat_le.2 hl,Int.ofNat_le.2 hm⟩];rfl
  have gen:ofL (bU zero c) (fun z=>A.pushL z fun b H=>k (.s b 0 l c none) H)=true->wo (hsem ca.ret lo (.mkSl zero) (toL [.i kd l,.i kd' c]) H) k:=by
   intro h;obtain⟨z,h6,h7⟩:=ju h;obtain⟨A',h8,r8⟩:=j7 rh h7;rw[h6]at r8;exact key r8 h8
  rcases zero with _|⟨z,_|⟨z',zs⟩⟩
  ·exact gen h5
  ·obtain⟨x,hx,h6⟩:=uP (show ofV z (fun z=>T.rep z 40 c fun t=>A.push (.mk c t) fun b H=>k (.s b 0 l c none) H)=true from h5)
   obtain⟨t,h7,r7⟩:=T.rep_rep x 40 c h6;obtain⟨A',h8,r8⟩:=uZ rh (x:=.mk c t) (y:=some (bU [z] c)) ⟨_,r7,by simp,by simp[bU,fi,<-hx]⟩ h7;exact key r8 h8
  ·exact gen h5
 case bSl zero len idx=>
  obtain⟨l,h1,h2⟩:=ox (show oB (buildL (bU zero len) (idx.map fun i=>(i*zero.length,zero.length)) (toL vs)) (fun l=>ofL l fun l=>A.pushL l fun b H=>k (.s b 0 len len none) H)=true from h);obtain⟨m,h3,h4⟩:=ju h2;obtain⟨A',h5,r5⟩:=j7 rh h4;rw[h3]at r5;exact⟨_,A',_,by simp only[hsem,h1];rfl,r5,h5⟩
 case st n=>
  obtain⟨x,y,rfl,h1⟩:=(qc h).resolve_right (by simp);obtain⟨b,o,rfl,h2⟩:=(vC h1).resolve_right (by simp);obtain⟨l,h3,h4⟩:=sD h2;obtain⟨hn,h5⟩:=eJ h4;obtain⟨h6,h7⟩:=pI h5;obtain⟨A',H',h8,h9,r9⟩:=Ez rh h7;have hn:(toV y).cells.size=n:=by rw[<-Nat.eq_of_beq_eq_true hn,<-kI,h3];simp
  have ho:=uT h6;rw[h3]at h9 ho;refine⟨B3,A',H',?_,r9,h8⟩;simp only[we,toV,hsem];rw[if_pos ⟨hn,ho⟩];exact congrArg (Option.map fun H'=>(undef,H')) h9
 case app sz z=>
  obtain⟨s,x,rfl,h1⟩:=(qc h).resolve_right (by simp);rcases x with _|_|_|⟨b,o,n,c,sp⟩|v
  ·cases h1
  ·cases h1
  ·cases h1
  ·obtain⟨new,h2,_,h3⟩:=zf rh (show A.rd b o (Nat.mul n sz) (fun new=>AN BC new (vX lo sz s new n A k))=true from h1)
   obtain⟨h4,h5⟩:=pI h2;obtain⟨y,A',H',h6,h7⟩:=tS rh h5;have h3:H.cells b o (n*sz)=some (toL new):=h3;refine⟨y,A',H',?_,h7⟩;simp only[we,toV,hsem,h3,ao₀];rw[if_pos (uT h4)];exact h6
  ·cases v<;>try cases h1
   case slice a n c=>
    cases a
    ·obtain⟨h2,h3⟩:=eJ h1
     obtain⟨y,A',H',h6,h7⟩:=tS rh h3;refine⟨y,A',H',?_,h7⟩;simp only[we,toV,hsem];rw[if_pos (Nat.eq_of_beq_eq_true h2)];exact h6
    ·cases h1
 case appS z=>
  obtain⟨s,x,rfl,h1⟩:=(qc h).resolve_right (by simp);obtain⟨v,rfl,h2⟩:=(vB h1).resolve_right (by simp);cases v<;>try cases h2
  case string b=>
   obtain⟨l,h3,h4⟩:=ju h2;rw[et]at h4;obtain⟨y,A',H',h6,h7⟩:=tS rh h4;rw[h3]at h6;exact⟨y,A',H',h6,h7⟩
 case cpy sz=>
  obtain⟨d,a,rfl,h1⟩:=(qc h).resolve_right (by simp);rcases sB h1 with ⟨b,o,n,c,sp,rfl,h2⟩|h2
  ·rcases sB h2 with ⟨b',o',m,c',sp',rfl,h3⟩|h3
   ·rw[et]at h3
    obtain⟨new,h4,_,h5⟩:=zf rh h3;obtain⟨h6,h7⟩:=pI h4;obtain⟨A',H',h8,h9,r9⟩:=Ez rh h7;have h5:H.cells b' o' (min m n*sz)=some (toL new):=h5;refine⟨_,A',H',?_,r9,h8⟩;simp only[we,toV,hsem,h5,ao₀];rw[if_pos (uT h6),h9];rfl
   ·obtain⟨v,rfl,h4⟩:=(vB h3).resolve_right (by simp)
    cases v<;>try cases h4
    case slice a m c'=>
     cases a
     ·obtain⟨h5,h6⟩:=eJ h4
      refine⟨_,A,H,?_,rh,h6⟩;simp only[we,toV,hsem];rw[if_pos (Nat.eq_of_beq_eq_true h5)];rfl
     ·cases h4
  ·obtain⟨v,rfl,h3⟩:=(vB h2).resolve_right (by simp)
   cases v<;>try cases h3
   case slice a' n c=>
    cases a'
    ·obtain⟨h4,h5⟩:=eJ h3
     obtain⟨h6,h7⟩:=eJ h5;have ha:∃p l c,toV a=.slice p l c:=by
      rcases a with _|_|_|⟨b,o,l,c,sp⟩|v
      ·cases h6
      ·cases h6
      ·cases h6
      ·exact⟨_,_,_,rfl⟩
      ·cases v<;>first|exact⟨_,_,_,rfl⟩|cases h6
     obtain⟨p,l,c',ha⟩:=ha;refine⟨_,A,H,?_,rh,h7⟩;simp only[we,ha];simp only[toV,hsem];rw[if_pos (Nat.eq_of_beq_eq_true h4)];rfl
    ·cases h3
 case s2b=>
  obtain⟨x,rfl,h1⟩:=jG h;obtain⟨v,rfl,h2⟩:=(vB h1).resolve_right (by simp);cases v<;>try cases h2
  case string b=>
   obtain⟨l,h3,h4⟩:=ju h2;rw[et]at h4;obtain⟨A',h5,r5⟩:=j7 rh h4;rw[h3]at r5;exact⟨_,A',_,rfl,r5,h5⟩
 case frz=>
  obtain⟨x,rfl,h1⟩:=jG h;obtain⟨b,o,n,c,sp,rfl,h2⟩:=(sB h1).resolve_right (by simp);cases sp with
  | none=>
   obtain⟨u,l,h3,_,hg,_⟩:=p6 rh (show A.blk b (fun _ _=>bB (Nat.ble lo b) (k (.s b o n c none) A) false)=true from h2);obtain⟨h4,h5⟩:=eJ h3;refine⟨_,A,H,?_,rh,h5⟩;simp only[kH,toV,hsem,jq,hg];rw[if_pos (Nat.le_of_ble_eq_true h4)]
  | some z=>cases h2
 case fail=>cases h
 case pan=>cases h
def XO1(fx:FS->FH->(Ex->FS->FH->Bool)->Bool)(ex:List Value->Heap->Out):Prop:=∀(F:FS) (S:List Value) (A:FH) (H:Heap) (k:Ex->FS->FH->Bool),RS F S->RH A H->fx F A k=true ->
 ∃x F' S' A' H',ex S H=some (x,S',H')/\RS F' S'/\RH A' H'/\k x F' A'=true
def XOK(fx:FX)(ex:Nat->List Value->Heap->Out):Prop:=∀lo,XO1 (fx lo) (ex lo)
theorem gj{ex:Nat->List Value->Heap->Out}:XOK noX ex:=fun _ _ _ _ _ _ _ _ h=>by cases h
theorem pf{x:Ex}{n r:Bool}{e:Nat->Bool}(h:cEx x n e r=true):(x=.normal/\n=true)\/(∃i,x=.exit i/\e i=true)\/(x=.ret/\r=true):=by
 cases x
 ·exact .inl ⟨rfl,h⟩
 ·exact .inr (.inl ⟨_,rfl,h⟩)
 ·exact .inr (.inr ⟨rfl,h⟩)
theorem DT{fx:FX}{ex:Nat->List Value->Heap->Out}(hx:XOK fx ex):∀n,XOK (itF fx n) (fun lo=>iter (ex lo) n)
 | 0=>fun _ _ _ _ _ _ _ _ h=>by cases h
 | n+1=>fun lo F S A H k rs rh h=>by
  obtain⟨x,F',S',A',H',h1,r1,r2,h2⟩:=hx lo F S A H _ rs rh (show fx lo F A (fun x S H=>cEx x (itF fx n lo S H k) (fun i=>k (.exit i) S H) (k .ret S H))=true from h);rcases pf h2 with ⟨rfl,h3⟩|⟨i,rfl,h3⟩|⟨rfl,h3⟩
  ·obtain⟨x2,F2,S2,A2,H2,h4,h5⟩:=DT hx n _ _ _ _ _ _ r1 r2 h3
   exact⟨x2,F2,S2,A2,H2,by simp[iter,h1,h4],h5⟩
  ·exact⟨_,F',S',A',H',by simp[iter,h1],r1,r2,h3⟩
  ·exact⟨_,F',S',A',H',by simp[iter,h1],r1,r2,h3⟩
theorem zD{f:Nat->FX}{lo:Nat}{g:List Value->Heap->Out}(hf:∀t:Nat,XO1 (f t lo) (fun S H=>g (.int .i64 (t:Int)::S) H)) :
  ∀n {x:Ex} {F:FS} {S:List Value} {A:FH} {H:Heap} {k:Ex->FS->FH->Bool},RS F S->RH A H->Fe f lo n x F A k=true ->
   ∃x' F' S' A' H',hop g n (some (x,S,H))=some (x',S',H')/\RS F' S'/\RH A' H'/\k x' F' A'=true
 | 0,x,F,S,A,H,k,rs,rh,h=>by cases h
 | n+1,x,F,S,A,H,k,rs,rh,h=>by
  rcases pf (show cEx x (k .normal F A) (fun j=>bB (Nat.ble 1000000 j) (f (Nat.sub j 1000000) lo F A fun x S H=>Fe f lo n x S H k) (k (.exit j) F A)) (k .ret F A)=true from h)with ⟨rfl,h3⟩|⟨j,rfl,h3⟩|⟨rfl,h3⟩
  ·exact⟨_,F,S,A,H,rfl,rs,rh,h3⟩
  ·refine dq h3 (fun hb h=>?_) (fun hb h=>?_)
   ·have hb:bC<=j:=Nat.le_of_ble_eq_true hb
    obtain⟨x1,F1,S1,A1,H1,h4,r1,r2,h5⟩:=hf _ _ _ _ _ _ rs rh h;obtain⟨x2,F2,S2,A2,H2,h6,h7⟩:=zD hf n r1 r2 h5;refine⟨x2,F2,S2,A2,H2,?_,h7⟩;simp only[hop,if_pos hb];have h4:g (.int .i64 ((j-bC:Nat):Int)::S) H=some (x1,S1,H1):=h4;rw[h4];exact h6
   ·rw[iD]at hb
    simp only[ai₀]at hb;exact⟨_,F,S,A,H,by simp only[hop];rw[if_neg (show ¬ bC<=j from hb)],rs,rh,h⟩
  ·exact⟨_,F,S,A,H,rfl,rs,rh,h3⟩
theorem Cv{cf:kQ}{ca:CallR}(hc:FC cf ca)(n:Nat)(s:Stm):XOK (jZ cf n s).1 (fun lo=>exec ca lo n s)/\∀t:Nat,XOK ((jZ cf n s).2 t) (fun lo S H=>exec ca lo n s (.int .i64 (t:Int)::S) H):=by
 induction s with
 | skip=>exact⟨fun _ _ _ _ _ _ rs rh h=>⟨_,_,_,_,_,rfl,rs,rh,h⟩,fun _=>gj⟩
 | sets l chk=>
  refine⟨fun lo F S A H k rs rh h=>?_,fun _=>gj⟩;obtain⟨vs,G,h1,r1,h2⟩:=qT rs rh l rs h;obtain⟨h3,h4⟩:=tg rs rh chk h2;exact⟨_,G,_,A,H,by simp only[exec,h1,h3,if_true],r1,rh,h4⟩
 | hv l chk pc dst o a=>
  refine⟨fun lo F S A H k rs rh h=>?_,fun _=>gj⟩;obtain⟨vs,G,h1,r1,h2⟩:=qT rs rh l rs h;obtain⟨h3,h4⟩:=tg rs rh chk h2;rcases xe rs rh pc h4 with ⟨h5,h6⟩|⟨h5,h6⟩
  ·obtain⟨xs,h7,h8⟩:=qN a rs rh h6
   rw[List.append_nil]at h8;obtain⟨x,A',H',h9,r9,h10⟩:=Cw (cf:=cf) (ca:=ca) hc rh h8;cases dst with
   | none=>exact⟨_,G,_,A',H',by simp only[exec,h1,h3,if_true,h5,h7,h9],r1,r9,h10⟩
   | some d=>
    obtain⟨F',h11,r11⟩:=r1.set h10;exact⟨_,F',_,A',H',by simp only[exec,h1,h3,if_true,h5,h7,h9],r11,r9,h11⟩
  ·cases dst with
   | none=>exact⟨_,G,_,A,H,by simp only[exec,h1,h3,if_true,h5],r1,rh,h6⟩
   | some d=>
    obtain⟨F',h11,r11⟩:=r1.set h6;exact⟨_,F',_,A,H,by simp only[exec,h1,h3,if_true,h5];rfl,r11,rh,h11⟩
 | dist a b=>
  refine⟨fun lo F S A H k rs rh h=>?_,fun _=>gj⟩;obtain⟨x,h1,h2⟩:=pM rs rh h;obtain⟨y,h3,h4⟩:=pM rs rh h2;have hb:∀z:FV,KQ z=ag (toV z):=by intro z;cases z<;>rfl
  rw[hb,hb]at h4;have:(ag (toV x)=none\/ag (toV x)≠ag (toV y))/\k .normal F A=true:=by
   rcases hx:ag (toV x)with _|i
   ·rw[hx]at h4;exact⟨.inl rfl,h4⟩
   ·rcases hy:ag (toV y)with _|j
    ·rw[hx,hy]at h4;exact⟨.inr (by simp),h4⟩
    ·rw[hx,hy]at h4
     refine dq h4 (fun _ h=>by cases h) (fun hb h=>⟨.inr ?_,h⟩);simp only[ne_eq,ab₀];exact Nat.ne_of_beq_eq_false hb
  exact⟨_,F,S,A,H,by simp only[exec,h1,h3,if_pos this.1],rs,rh,this.2⟩
 | seq a b iha ihb=>
  refine⟨fun lo F S A H k rs rh h=>?_,fun _=>gj⟩;obtain⟨x,F1,S1,A1,H1,h1,r1,r2,h2⟩:=iha.1 _ _ _ _ _ _ rs rh (show(jZ cf n a).1 lo F A (fun x S H=>cEx x ((jZ cf n b).1 lo S H k) (fun i=>k (.exit i) S H) (k .ret S H))=true from h);rcases pf h2 with ⟨rfl,h3⟩|⟨i,rfl,h3⟩|⟨rfl,h3⟩
  ·obtain⟨x2,F2,S2,A2,H2,h4,h5⟩:=ihb.1 _ _ _ _ _ _ r1 r2 h3
   exact⟨x2,F2,S2,A2,H2,by simp only[exec,h1,h4],h5⟩
  ·exact⟨_,F1,S1,A1,H1,by simp only[exec,h1],r1,r2,h3⟩
  ·exact⟨_,F1,S1,A1,H1,by simp only[exec,h1],r1,r2,h3⟩
 | cond c a b iha ihb=>
  refine⟨fun lo F S A H k rs rh h=>?_,fun _=>gj⟩;obtain⟨xs,h1,h2⟩:=qN c rs rh (show fev c F A [] (fun l=>isB l ((jZ cf n a).1 lo F A k) ((jZ cf n b).1 lo F A k))=true from h);rw[List.append_nil]at h2;rcases xj h2 with ⟨rfl,h3⟩|⟨rfl,h3⟩
  ·obtain⟨x2,F2,S2,A2,H2,h4,h5⟩:=iha.1 _ _ _ _ _ _ rs rh h3
   exact⟨x2,F2,S2,A2,H2,by simp only[exec,ev1,h1,kH,toV,h4],h5⟩
  ·obtain⟨x2,F2,S2,A2,H2,h4,h5⟩:=ihb.1 _ _ _ _ _ _ rs rh h3
   exact⟨x2,F2,S2,A2,H2,by simp only[exec,ev1,h1,kH,toV,h4],h5⟩
 | block i b ih=>
  refine⟨fun lo F S A H k rs rh h=>?_,fun _=>gj⟩;obtain⟨x,F1,S1,A1,H1,h1,r1,r2,h2⟩:=ih.1 _ _ _ _ _ _ rs rh (show(jZ cf n b).1 lo F A (fun x S H=>cEx x (k .normal S H) (fun j=>bB (Nat.beq j i) (k .normal S H) (k (.exit j) S H)) (k .ret S H))=true from h);rcases pf h2 with ⟨rfl,h3⟩|⟨j,rfl,h3⟩|⟨rfl,h3⟩
  ·exact⟨_,F1,S1,A1,H1,by simp only[exec,h1],r1,r2,h3⟩
  ·refine dq h3 (fun hb h=>?_) (fun hb h=>?_)
   ·exact⟨_,F1,S1,A1,H1,by simp only[exec,h1,if_pos (Nat.eq_of_beq_eq_true hb)],r1,r2,h⟩
   ·exact⟨_,F1,S1,A1,H1,by simp only[exec,h1,if_neg (Nat.ne_of_beq_eq_false hb)],r1,r2,h⟩
  ·exact⟨_,F1,S1,A1,H1,by simp only[exec,h1],r1,r2,h3⟩
 | loop b ih=>
  refine⟨fun lo F S A H k rs rh h=>?_,fun _=>gj⟩;obtain⟨x2,F2,S2,A2,H2,h4,h5⟩:=DT ih.1 n _ _ _ _ _ _ rs rh h;exact⟨x2,F2,S2,A2,H2,by simp only[exec];exact h4,h5⟩
 | exit i=>exact⟨fun _ _ _ _ _ _ rs rh h=>⟨_,_,_,_,_,rfl,rs,rh,h⟩,fun _=>gj⟩
 | ret=>exact⟨fun _ _ _ _ _ _ rs rh h=>⟨_,_,_,_,_,rfl,rs,rh,h⟩,fun _=>gj⟩
 | scope b alts ihb iha=>
  refine⟨fun lo F S A H k rs rh h=>?_,fun _=>gj⟩;obtain⟨x,F1,S1,A1,H1,h1,r1,r2,h2⟩:=ihb.1 _ _ _ _ _ _ rs rh (show(jZ cf n b).1 lo F A (fun x S H=>Fe (jZ cf n alts).2 lo n x S H k)=true from h);obtain⟨x2,F2,S2,A2,H2,h4,h5⟩:=zD (f:=(jZ cf n alts).2) (lo:=lo) (g:=exec ca lo n alts) (fun t=>iha.2 t lo) n r1 r2 h2;exact⟨x2,F2,S2,A2,H2,by simp only[exec,h1];exact h4,h5⟩
 | alt l s r ihs ihr=>
  refine⟨gj,fun t {lo F S A H k} rs rh h=>?_⟩;have h:xAlt.bX (jZ cf n s).1 ((jZ cf n r).2 t) (Nat.beq t l) lo F A k=true:=h;cases hb:Nat.beq t l
  ·rw[hb]at h
   obtain⟨x2,F2,S2,A2,H2,h4,h5⟩:=ihr.2 t _ _ _ _ _ _ rs rh h;exact⟨x2,F2,S2,A2,H2,by simp only[exec];rw[if_neg (fun e=>Nat.ne_of_beq_eq_false hb (by exact_mod_cast e))];exact h4,h5⟩
  ·rw[hb]at h
   obtain⟨x2,F2,S2,A2,H2,h4,h5⟩:=ihs.1 _ _ _ _ _ _ rs rh h;exact⟨x2,F2,S2,A2,H2,by simp only[exec];rw[if_pos (by rw[Nat.eq_of_beq_eq_true hb])];exact h4,h5⟩
theorem yw{F:FS}{S:List Value}{A:FH}{H:Heap}(rs:RS F S)(rh:RH A H):∀(l:List E) {k:List FV->Bool},DA l F A k=true->∃xs,evList S H l=some (toL xs)/\k xs=true
 | [],k,h=>⟨[],rfl,h⟩
 | e::l,k,h=>by
  obtain⟨x,h1,h2⟩:=pM rs rh (show xY e F A (fun v=>DA l F A fun l=>k (v::l))=true from h);obtain⟨xs,h3,h4⟩:=yw rs rh l h2;exact⟨x::xs,by simp only[evList,h1,h3];rfl,h4⟩
theorem HJ{l:List FV}{k:FV->Bool}(h:HI l k=true):∃x,aM (toL l)=toV x/\k x=true:=by
 rcases l with _|⟨x,_|⟨y,l⟩⟩
 ·exact⟨_,rfl,h⟩
 ·exact⟨_,rfl,h⟩
 ·exact⟨_,rfl,h⟩
def pZ(cp:FuncId->Option CF)(sc:SC)(N:Nat):Prop:=∀f args k d,sc f args k d=true->d=true\/∃v g,k v g=true /\
 ∀m,N<=m->∀(lo:Nat) (H:Heap),lo<=H.length->∃G:Heap,G.length=g/\run cp m lo f (toL args) H=some (.inl (toV v),H++G)
theorem zU(cp:FuncId->Option CF):pZ cp L9 0:=fun _ _ _ _ h=>.inl h
theorem tj{cp:FuncId->Option CF}{sc:SC}{N:Nat}(hsc:pZ cp sc N):∀n,FC (xf cp sc N n) (run cp (N+n))
 | 0=>fun _ _ _ _ _ _ _ h=>by cases h
 | n+1=>fun lo f args A H k rh h=>by
  rcases hsc _ _ _ _ (show sc f args (fun v g=>A.skip lo g fun H=>k v H) _=true from h)with h|⟨v,g,hk,hr⟩;rotate_left
  ·obtain⟨t,rfl,ht⟩:=rh
   obtain⟨h1,h2⟩:=eJ (show bB (Nat.ble lo H.length) (fN (Nat.add H.length g) fun m=>k v (.mk m t)) false=true from hk);rw[et]at h2;obtain⟨G,hG,hr⟩:=hr (N+(n+1)) byO lo H (Nat.le_of_ble_eq_true h1);refine⟨v,_,H++G,hr,⟨t,by rw[as₀,hG];rfl,fun b=>?_⟩,h2⟩;have:=ht b;by_cases hb:b<H.length
   ·rw[ax₀ hb];exact this
   ·rw[av₀ byO]at this
    rcases hg:t.get b with _|x
    ·exact trivial
    ·rw[hg]at this;cases x<;>exact this.elim
  show ∃x A' H',run cp ((N+n)+1) lo f (toL args) H=_/\_;obtain⟨cf,h1,h2⟩:=ox (show oB (cp f) _=true from h);obtain⟨hn,h3⟩:=eJ h2;have hn:args.length=cf.np:=Nat.eq_of_beq_eq_true hn;obtain⟨t,h4,r4⟩:=T.rep_rep B3 12 cf.ns h3;obtain⟨t2,h5,r5⟩:=T.setL_rep args r4 h4;have rs:RS t2 (toL args++List.replicate (cf.ns-cf.np) undef):=⟨_,r5,by
   have e:toV B3=undef:=rfl;simp[u5,fi,hn,e]⟩
  cases hk:cf.kind with
  | plain=>
   rw[hk]at h5;obtain⟨x,F1,S1,A1,H1,h6,r6,r7,h7⟩:=(Cv (tj hsc n) (N+n) cf.body).1 _ _ _ _ _ _ rs rh h5;have fin:(DA cf.res F1 A1 fun l=>HI l fun v=>k v A1)=true->∃x,(match evList S1 H1 cf.res with
     | some vs=>some (Sum.inl (β:=Value) (aM vs),H1)
     | none=>none)=some (.inl (toV x),H1)/\k x A1=true:=by
    intro h;obtain⟨xs,h8,h9⟩:=yw r6 r7 cf.res h;obtain⟨y,h10,h11⟩:=HJ h9;exact⟨y,by rw[h8];simp only[h10],h11⟩
   rcases pf h7 with ⟨rfl,h8⟩|⟨i,rfl,h8⟩|⟨rfl,h8⟩
   ·obtain⟨y,h9,h10⟩:=fin h8
    exact⟨y,A1,H1,by simp only[run,h1,kI,hn,if_true,hk,h6];exact h9,r7,h10⟩
   ·cases h8
   ·obtain⟨y,h9,h10⟩:=fin h8
    exact⟨y,A1,H1,by simp only[run,h1,kI,hn,if_true,hk,h6];exact h9,r7,h10⟩
  | dfr mid j rst=>rw[hk]at h5;cases h5
  | rcv j=>rw[hk]at h5;cases h5
theorem EO:RH (.mk 0 .e) []:=⟨.e,rfl,fun b=>by simp[T.get_e,RO]⟩
def eq1(a b:Value):Bool:=
 match a,b with
 | .bool a,.bool b=>a==b
 | .int k a,.int k' b=>Nat.beq (idI k) (idI k')&&decide (a=b)
 | .slice none l c,.slice none l' c'=>Nat.beq l l'&&Nat.beq c c'
 | .slice (some ⟨b,o,none⟩) l c,.slice (some ⟨b',o',none⟩) l' c'=>Nat.beq b b'&&Nat.beq o o'&&Nat.beq l l'&&Nat.beq c c'
 | .slice (some ⟨b,o,some z⟩) l c,.slice (some ⟨b',o',some z'⟩) l' c'=>Nat.beq b b'&&Nat.beq o o'&&Nat.beq l l'&&Nat.beq c c'&&Nat.beq z z'
 | _,_=>false
theorem Cp{a b:Value}(h:eq1 a b=true):a=b:=by
 unfold eq1 at h;split at h
 ·rw[eq_of_beq h]
 ·simp only[ac₀,af₀]at h;rw[id_eq h.1,h.2]
 ·simp only[ac₀]at h;rw[Nat.eq_of_beq_eq_true h.1,Nat.eq_of_beq_eq_true h.2]
 ·simp only[ac₀]at h;rw[Nat.eq_of_beq_eq_true h.1.1.1,Nat.eq_of_beq_eq_true h.1.1.2,Nat.eq_of_beq_eq_true h.1.2,Nat.eq_of_beq_eq_true h.2]
 ·simp only[ac₀]at h;rw[Nat.eq_of_beq_eq_true h.1.1.1.1,Nat.eq_of_beq_eq_true h.1.1.1.2,Nat.eq_of_beq_eq_true h.1.1.2,Nat.eq_of_beq_eq_true h.1.2,Nat.eq_of_beq_eq_true h.2]
 ·cases h
def eqL(eq:Value->Value->Bool):List Value->List Value->Bool
 | [],[]=>true
 | a::l,b::m=>eq a b&&eqL eq l m
 | _,_=>false
theorem xR{eq:Value->Value->Bool}(he:∀{a b},eq a b=true->a=b):∀{l m:List Value},eqL eq l m=true->l=m
 | [],[],_=>rfl
 | a::l,b::m,h=>by
  simp only[eqL,ac₀]at h;rw[he h.1,xR he h.2]
 | [],_::_,h=>by cases h
 | _::_,[],h=>by cases h
def eq2(a b:Value):Bool:=match a,b with
 | .agg a,.agg b=>eqL eq1 a.toList b.toList
 | a,b=>eq1 a b
theorem Cq{a b:Value}(h:eq2 a b=true):a=b:=by
 unfold eq2 at h;split at h
 ·rw[Array.toList_inj.1 (xR Cp h)]
 ·exact Cp h
def eq3(a b:Value):Bool:=match a,b with
 | .tuple a,.tuple b=>eqL eq2 a.toList b.toList
 | a,b=>eq2 a b
theorem qH{a b:Value}(h:eq3 a b=true):a=b:=by
 unfold eq3 at h;split at h
 ·rw[Array.toList_inj.1 (xR Cq h)]
 ·exact Cq h
def Di(k:Mv)(v:Value):Value:=match v with
 | .slice (some ⟨b,o,s⟩) l c=>.slice (some ⟨k.f b,o,s⟩) l c
 | .pointer (some ⟨b,o,s⟩)=>.pointer (some ⟨k.f b,o,s⟩)
 | v=>v
def Dj(k:Mv)(v:Value):Value:=match v with
 | .agg a=>.agg (a.toList.map (Di k)).toArray
 | v=>Di k v
def G9(k:Mv)(v:Value):Value:=match v with
 | .tuple a=>.tuple (a.toList.map (Dj k)).toArray
 | v=>Dj k v
theorem uG{k:Mv}{g:Value->Value}{eq:Value->Value->Bool}(hg:∀{v v':Value},eq v v=true->Sh k v v'->v'=g v):∀{l l':List Value},eqL eq l l=true->LSh k l l'->l'=l.map g
 | [],l',_,s=>by rw[s.of_nil];rfl
 | v::l,l',h,s=>by
  simp only[eqL,ac₀]at h;obtain⟨y,r,rfl,h1,h2⟩:=s.of_cons;rw[hg h.1 h1,uG hg h.2 h2];rfl
theorem E4{k:Mv}{v v':Value}(h:eq1 v v=true)(s:Sh k v v'):v'=Di k v:=by
 cases s<;>first|rfl|(simp[eq1]at h)
theorem E5{k:Mv}{v v':Value}(h:eq2 v v=true)(s:Sh k v v'):v'=Dj k v:=by
 cases s
 case agg a a' ha ra=>
  have:=uG (k:=k) (eq:=eq1) (g:=Di k) E4 (l:=a.toList) (l':=a'.toList) h (LSh.arr.2 ⟨ha,ra⟩);show Value.agg a'=.agg (a.toList.map (Di k)).toArray;rw[<-this]
 case tuple=>simp[eq2,eq1]at h
 all_goals exact E4 (k:=k) (by simpa only[eq2]using h) (by constructor<;>assumption)
theorem E6{k:Mv}{v v':Value}(h:eq3 v v=true)(s:Sh k v v'):v'=G9 k v:=by
 cases s
 case tuple a a' ha ra=>
  have:=uG (k:=k) (eq:=eq2) (g:=Dj k) E5 (l:=a.toList) (l':=a'.toList) h (LSh.arr.2 ⟨ha,ra⟩);show Value.tuple a'=.tuple (a.toList.map (Dj k)).toArray;rw[<-this]
 all_goals exact E5 (k:=k) (by simpa only[eq3]using h) (by constructor<;>assumption)
def Hi(v0:Value)(v:FV)(_:FH):Bool:=eq3 (toV v) v0
theorem xW{k:Mv}{H H' H0:Heap}(hn:k.n=H.length)(h:HSh k H0 H')(hp:∀i,i<H.length->H'[i]?=H[i]?):Ext H H':=⟨by have:=h.len;omega,fun i hi=>by unfold Heap.get;rw[hp i hi]⟩
theorem Ct{cp:FuncId->Option CF}{sc:SC}{N:Nat}(hp:∀f cf,cp f=some cf->aI cf=true)(hsc:pZ cp sc N){n f:Nat}{args:List FV}{v0:Value}(h:xf cp sc N n 0 f args (.mk 0 .e) (Hi v0)=true)(ha:(toL args).all fO=true)(hv:eq3 v0 v0=true)
  {lo:Nat} {H:Heap} (hlo:lo<=H.length):Ev cp lo f (toL args) H (fun v H'=>Ext H H'/\v=G9 (mv0 H.length) v0):=by
 obtain⟨x,A',H1,h1,r1,h2⟩:=tj hsc n _ _ _ _ _ _ EO h;have h2:toV x=v0:=qH h2;rw[h2]at h1;exact nF hp ha (N+n) h1 hlo fun v' H' hs hh hpre=>⟨xW rfl hh hpre,E6 hv hs⟩
theorem BU{cp:FuncId->Option CF}(hp:∀f cf,cp f=some cf->aI cf=true){f:FuncId}{args:List Value}(ha:args.all fO=true){v:Value}(hv:eq3 v v=true)(hm:∀n,G9 (mv0 n) v=v){H0:Heap}{n:Nat}(h:run cp n 0 f args []=some (.inl v,H0)) :
  ∀m,n<=m->∀(lo:Nat) (H:Heap),lo<=H.length->∃G:Heap,G.length=H0.length/\run cp m lo f args H=some (.inl v,H++G):=by
 intro m hmn lo H hlo;have hargs:LSh (mv0 H.length) args args:=by
  refine⟨rfl,fun j x y hx hy=>?_⟩;rw[hx]at hy;cases hy;exact gF (List.all_eq_true.1 ha _ (List.mem_of_getElem? hx))
 obtain⟨r',B',h1,h2,h3⟩:=oN hp n 0 lo f args args [] H _ H0 ⟨Nat.le_refl _,by simp only[mv0];omega⟩ hargs ⟨by simp[mv0],fun i c hc=>by simp[Heap.get]at hc⟩ h;have hl:=h3.sh.newf;rw[JT]at hl;cases r' with
 | inr u=>exact h2.elim
 | inl u=>
  have e:u=v:=(E6 hv h2).trans (hm _);subst e;refine⟨B'.drop H.length,by rw[List.length_drop];omega,?_⟩;have hB:B'=H++B'.drop H.length:=by
   refine List.ext_getElem? fun i=>?_;by_cases hi:i<H.length
   ·rw[ax₀ hi];exact h3.pre i hi
   ·rw[aw₀ byO,List.getElem?_drop,show H.length+(i-H.length)=i by omega]
  rw[<-hB];exact oM hmn _ _ _ _ _ h1
noncomputable def yZ(v0:Value)(g:Nat)(v:FV)(A:FH):Bool:=bB (eq3 (toV v) v0) (Nat.beq A.size g) false
theorem m7{cp:FuncId->Option CF}{sc:SC}{N:Nat}(hp:∀f cf,cp f=some cf->aI cf=true)(hsc:pZ cp sc N){n f:Nat}{args:List FV}{v0:Value}{g:Nat}(h:xf cp sc N n 0 f args (.mk 0 .e) (yZ v0 g)=true)(ha:(toL args).all fO=true)(hv:eq3 v0 v0=true)(hm:∀n,G9 (mv0 n) v0=v0) :
  ∀m,N+n<=m->∀(lo:Nat) (H:Heap),lo<=H.length->∃G:Heap,G.length=g/\run cp m lo f (toL args) H=some (.inl v0,H++G):=by
 obtain⟨x,A',H1,h1,r1,h2⟩:=tj hsc n _ _ _ _ _ _ EO h;obtain⟨h3,h4⟩:=eJ h2;have h3:toV x=v0:=qH h3;rw[h3]at h1;have hg:H1.length=g:=by rw[<-r1.size];exact Nat.eq_of_beq_eq_true h4
 have:=BU hp ha hv hm h1;rw[hg]at this;exact this
noncomputable def scF(sc:SC)(f0 g:Nat)(c:Value)(v:FV):SC:=fun f args k d=>bB (Nat.beq f f0) (l1 args (fun x=>bB (eq3 (toV x) c) (k v g) d) d) (sc f args k d)
noncomputable def scM(sc:SC)(f0 g K:Nat)(c c2:Value)(v:Nat->Nat):SC:=fun f args k d=>bB (Nat.beq f f0)
 (l3' args (fun x y z=>bB (eq3 (toV x) c) (cI y (fun ka a=>bB (Nat.beq (idI ka) 3) (bB (Nat.ble a K) (bB (eq3 (toV z) c2) (fN (v a) fun n=>k (.o (.tuple #[.int .i64 (.ofNat n),.int .i64 0])) g) d) d) d) d) d) d) (sc f args k d)
where l3' {α β:Type} (l:List β) (f:β->β->β->α) (d:α):α:=List.casesOn l d fun x r=>List.casesOn r d fun y r=>List.casesOn r d fun z r=>List.casesOn r (f x y z) fun _ _=>d
def Hg(cp:FuncId->Option CF)(N f:Nat)(args:List Value)(v:Value)(g:Nat):Prop:=∀m,N<=m->∀(lo:Nat) (H:Heap),lo<=H.length->∃G:Heap,G.length=g/\run cp m lo f args H=some (.inl v,H++G)
theorem Qs{k:IntKind}(h:Nat.beq (idI k) 3=true):k=.i64:=by cases k<;>first|rfl|cases h
theorem bBs{b x y:Bool}(h:bB b x y=true):b=true/\x=true\/y=true:=by
 cases b
 ·exact .inr h
 ·exact .inl ⟨rfl,h⟩
theorem EZ{cp:FuncId->Option CF}{sc:SC}{N N' f0 g:Nat}{c:Value}{v:FV}(h:pZ cp sc N)(hr:Hg cp N' f0 [c] (toV v) g):pZ cp (scF sc f0 g c v) (max N N'):=by
 intro f args k d hk;rcases hf:Nat.beq f f0 with _|_
 ·unfold scF at hk;rw[hf]at hk
  rcases h f args k d hk with h1|⟨v',g',h1,h2⟩
  ·exact .inl h1
  ·exact .inr ⟨v',g',h1,fun m hm=>h2 m byO⟩
 ·unfold scF at hk;rw[hf]at hk
  have e:=Nat.eq_of_beq_eq_true hf;subst e
  match args,hk with
  | [],hk=>exact .inl hk
  | x::y::r,hk=>exact .inl hk
  | [x],hk=>
   rcases bBs (show bB (eq3 (toV x) c) (k v g) d=true from hk)with ⟨h0,h1⟩|h1
   ·have hx:toV x=c:=qH h0
    refine .inr ⟨_,_,h1,fun m hm lo H hlo=>?_⟩;show ∃G:Heap,G.length=g/\run cp m lo f [toV x] H=_;rw[hx];exact hr m byO lo H hlo
   ·exact .inl h1
theorem MQ{cp:FuncId->Option CF}{sc:SC}{N N' f0 g K:Nat}{c c2:Value}{v:Nat->Nat}(h:pZ cp sc N)(hr:∀a,a<=K->Hg cp N' f0 [c,.int .i64 a,c2] (.tuple #[.int .i64 (v a:Nat),.int .i64 0]) g):pZ cp (scM sc f0 g K c c2 v) (max N N'):=by
 intro f args k d hk;rcases hf:Nat.beq f f0 with _|_
 ·unfold scM at hk;rw[hf]at hk
  rcases h f args k d hk with h1|⟨v',g',h1,h2⟩
  ·exact .inl h1
  ·exact .inr ⟨v',g',h1,fun m hm=>h2 m byO⟩
 ·unfold scM at hk;rw[hf]at hk
  have e:=Nat.eq_of_beq_eq_true hf;subst e
  match args,hk with
  | [],hk=>exact .inl hk
  | [x],hk=>exact .inl hk
  | [x,y],hk=>exact .inl hk
  | x::y::z::w::r,hk=>exact .inl hk
  | [x,y,z],hk=>
   rcases bBs (show bB (eq3 (toV x) c) (cI y (fun ka a=>bB (Nat.beq (idI ka) 3) (bB (Nat.ble a K) (bB (eq3 (toV z) c2) (fN (v a) fun n=>k (.o (.tuple #[.int .i64 (.ofNat n),.int .i64 0])) g) d) d) d) d) d=true from hk)with ⟨h0,h1⟩|h1
   ·cases y with
    | i ka a=>
     rcases bBs (show bB (Nat.beq (idI ka) 3) (bB (Nat.ble a K) (bB (eq3 (toV z) c2) (fN (v a) fun n=>k (.o (.tuple #[.int .i64 (.ofNat n),.int .i64 0])) g) d) d) d=true from h1)with ⟨h2,h3⟩|h3
     ·rcases bBs h3 with ⟨h4,h5⟩|h5
      ·rcases bBs h5 with ⟨h6,h7⟩|h7
       ·rw[et]at h7
        have hx:toV x=c:=qH h0;have hz:toV z=c2:=qH h6;have hka:=Qs h2;subst hka;refine .inr ⟨_,_,h7,fun m hm lo H hlo=>?_⟩;show ∃G:Heap,G.length=g/\run cp m lo f [toV x,.int .i64 a,toV z] H=_;rw[hx,hz];exact hr a (Nat.le_of_ble_eq_true h4) m byO lo H hlo
       ·exact .inl h7
      ·exact .inl h5
     ·exact .inl h3
    | _=>exact .inl h1
   ·exact .inl h1
end Go.Abs
namespace Go.Proofs.YtmnlgdpdgjbfgaaGreat
open Go.Abs
set_option maxHeartbeats 0
def xX:Value:=.agg #[.int .i64 2,.int .i64 256,.int .i64 301]
theorem Qt:xf cp L9 0 1000 0 150 [.i .i64 301] (.mk 0 .e) (yZ (.bool true) 0)=true:=by kernel_rfl
noncomputable def scA:SC:=scF L9 150 0 (.int .i64 301) (.b true)
theorem EX:pZ cp scA 1000:=EZ (N':=1000) (c:=.int .i64 301) (v:=.b true) (zU cp) (m7 l6 (zU cp) Qt rfl rfl fun _=>rfl)
theorem Qq:xf cp scA 1000 1000 0 161 [.o xX] (.mk 0 .e) (yZ (.int .i64 2) 257)=true:=by kernel_rfl
noncomputable def scB:SC:=scF scA 161 257 xX (.i .i64 2)
theorem EY:pZ cp scB 2000:=EZ (N':=2000) (c:=xX) (v:=.i .i64 2) EX (m7 l6 EX Qq rfl rfl fun _=>rfl)
def Ca(a:Nat):Nat:=if Nat.ble a 127 then 2*a else Nat.xor (2*a) 301
theorem L8:((List.range 256).all fun a=>xf cp scB 2000 300 0 115 [.o xX,.i .i64 a,.i .i64 2] (.mk 0 .e) (yZ (.tuple #[.int .i64 (.ofNat (Ca a)),.int .i64 0]) 5))=true:=by kernel_rfl
theorem A5(a:Nat):eq3 (.tuple #[.int .i64 (.ofNat a),.int .i64 0]) (.tuple #[.int .i64 (.ofNat a),.int .i64 0])=true:=by
 unfold eq3;simp[eqL,eq2,eq1]
noncomputable def scC:SC:=scM scB 115 5 255 xX (.int .i64 2) Ca
theorem MP:pZ cp scC 2300:=MQ (N':=2300) (c:=xX) (c2:=.int .i64 2) EY fun a ha=>m7 (args:=[.o xX,.i .i64 a,.i .i64 2]) l6 EY (List.all_eq_true.1 L8 a (List.mem_range.2 byO)) rfl (A5 _) fun _=>rfl
set_option maxHeartbeats 0 in
theorem exR:xf cp scC 2300 100000 0 12 [] (.mk 0 .e) (Hi (.bool true))=true:=by kernel_rfl
theorem yp{lo:Nat}{H:Heap}(hlo:lo<=H.length):Ev cp lo 12 [] H (fun v H'=>Ext H H'/\v=.bool true):=Ct (args:=[]) l6 MP exR rfl rfl hlo
set_option maxRecDepth 100000
theorem kX:∀f cf,cp f=some cf->aI cf=true:=l6
abbrev Co(b:UInt8):Value:=.int .u8 (b.toNat:Nat)
abbrev SlU:=Sl Co
abbrev aD(n:Nat):Value:=.int .i64 (n:Nat)
abbrev SlN:=Sl aD
abbrev uN(l:List Nat):List Value:=l.map aD
theorem MT{k:Mv}{l:List Value}{v':Value}(h:l.all bO=true)(s:Sh k (.tuple l.toArray) v'):v'=.tuple l.toArray:=by
 cases s with
 | tuple c d hs hr=>
  congr 1;refine(Array.ext (by simpa using hs) fun i h1 h2=>?_).symm;have h3:=hr i _ _ (Array.getElem?_eq_getElem h1) (Array.getElem?_eq_getElem h2);have h4:bO l.toArray[i]=true:=List.all_eq_true.1 h _ (by simp);exact(rN h4 h3).symm
theorem xV{cp:FuncId->Option CF}(hp:∀f cf,cp f=some cf->aI cf=true){f:FuncId}{n:Nat}{args:List Value}{l:List Value}(ha:args.all fO=true)(h:((run cp n).ret 0 f args []).map (·.1)=some (.tuple l.toArray))(hv:l.all bO=true)
  {lo:Nat} {H:Heap} (hlo:lo<=H.length):Ev cp lo f args H (fun v' H'=>v'=.tuple l.toArray/\Ext H H'):=by
 obtain⟨⟨v,H0⟩,hr,rfl⟩:=Option.map_eq_some_iff.1 h;refine nF hp ha n (mh hr) hlo fun v' H' hv' hH hpre=>⟨MT hv hv',mZ hH hpre⟩
def isInt(n:Int):Option (Value×Heap)->Bool
 | some (.int .i64 m,_)=>m==n
 | _=>false
theorem q9{n:Int}{r:Option (Value×Heap)}(h:isInt n r=true):r.map (·.1)=some (.int .i64 n):=by
 match r,h with
 | some (.int .i64 m,_),h=>
  have h':m=n:=by simpa[isInt]using h
  rw[h'];rfl
def isB(n:Bool):Option (Value×Heap)->Bool
 | some (.bool m,_)=>m==n
 | _=>false
def Dw(lower:Bool)(n:Nat):Nat×Nat:=
 if n=32 then(0,3) else if 48<=n/\n<=57 then(0,n-48+4)
 else if 65<=n/\n<=90/\lower=false then(0,n-65+14) else if 97<=n/\n<=122/\lower=true then(0,n-97+14)
 else if 65<=n/\n<=90 then(3,n-65+1) else if n<=31 then(1,n) else if n<=47 then(2,n-33) else if n<=64 then(2,n-58+15) else if n<=95 then(2,n-91+22) else(3,n-96)
def Ba(n:Nat):Nat:=if 65<=n/\n<=90 then n-65+15 else if 48<=n/\n<=57 then n-48+5 else if n=13 then 1 else if n=42 then 2 else if n=62 then 3 else if n=32 then 4 else 0
def Nr(n:Nat):Bool:=decide (48<=n)&&decide (n<=57)
section
variable {lo:Nat}{H:Heap}
end
end Go.Proofs.YtmnlgdpdgjbfgaaGreat
