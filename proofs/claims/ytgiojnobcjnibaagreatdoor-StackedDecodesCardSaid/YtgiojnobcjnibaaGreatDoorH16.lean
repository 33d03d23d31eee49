/- Lemmas. -/
import Derived.Test.YtgiojnobcjnibaaGreatDoorH15
set_option linter.all false
namespace Go.Proofs.YtgiojnobcjnibaaGreatDoor
open Go.Abs
def tV:Value:=.agg #[.int .i64 929,.int .i64 929,.int .i64 0]
noncomputable def sc3(args:List FV)(K:Nat->Nat->Bool)(d:Bool):Bool:=l3 args (λx y z=>bB (eq3 (toV x) tV) (cI y (λka a=>cI z (λkb b=>bB (Nat.beq (idI ka) 3) (bB (Nat.beq (idI kb) 3) (bB (Nat.ble a 928) (bB (Nat.ble b 928) (K a b) d) d) d) d) d) d) d) d
noncomputable def scA:SC:=λf args k d=>bB (Nat.beq f 176)
 (sc3 args (λa b=>fN (Nat.mod (Nat.mul a b) 929) λn=>k (.i .i64 n) 1) d)
 (bB (Nat.beq f 109) (l1 args (λx=>cI x (λka a=>bB (Nat.beq (idI ka) 3) (bB (Nat.beq a 929) (k (.b true) 0) d) d) d) d) d)
def TP:Sub (λf=>if f=109 then some GS else none) cpO:=λf cf h=>by
 simp only at h;split at h
 next e=>subst e;exact h
 .cases h
def P4{k:IntKind}(h:Nat.beq (idI k) 3=true):k=.i64:=by cases k<;>first|rfl|cases h
def Wj:∀{c d:Bool},bB c d d=true->d=true
 | true,_,h=>h
 | false,_,h=>h
def Wi:∀{args:List FV} {K:Nat->Nat->Bool} {d:Bool},sc3 args K d=true->d=true\/∃a b:Nat,a<=928/\b<=928/\toL args=[tV,.int .i64 a,.int .i64 b]/\K a b=true
 | [],_,_,h=>.inl h
 | [_],_,_,h=>.inl h
 | [_,_],_,_,h=>.inl h
 | _::_::_::_::_,_,_,h=>.inl h
 | [x,.i e a,.i c b],K,d,h=>by
  replace h:bB (eq3 (toV x) tV) (bB (Nat.beq (idI e) 3) (bB (Nat.beq (idI c) 3) (bB (Nat.ble a 928) (bB (Nat.ble b 928) (K a b) d) d) d) d) d=true:=h;rcases f:eq3 (toV x) tV with _|_<;>rw[f]at h
  .exact .inl h
  replace h:bB (Nat.beq (idI e) 3) (bB (Nat.beq (idI c) 3) (bB (Nat.ble a 928) (bB (Nat.ble b 928) (K a b) d) d) d) d=true:=h;rcases g:Nat.beq (idI e) 3 with _|_<;>rw[g]at h
  .exact .inl h
  replace h:bB (Nat.beq (idI c) 3) (bB (Nat.ble a 928) (bB (Nat.ble b 928) (K a b) d) d) d=true:=h;rcases j:Nat.beq (idI c) 3 with _|_<;>rw[j]at h
  .exact .inl h
  replace h:bB (Nat.ble a 928) (bB (Nat.ble b 928) (K a b) d) d=true:=h;rcases k:Nat.ble a 928 with _|_<;>rw[k]at h
  .exact .inl h
  replace h:bB (Nat.ble b 928) (K a b) d=true:=h;rcases l:Nat.ble b 928 with _|_<;>rw[l]at h
  .exact .inl h
  have m:=P4 g;have n:=P4 j;subst m n;refine .inr ⟨a,b,Nat.le_of_ble_eq_true k,Nat.le_of_ble_eq_true l,?_,h⟩;show[toV x,.int .i64 a,.int .i64 b]=_;rw[tN f]
 | [x,.b _,_],_,_,h=>.inl<|Wj h
 | [x,.p _ _,_],_,_,h=>.inl<|Wj h
 | [x,.s _ _ _ _ _,_],_,_,h=>.inl<|Wj h
 | [x,.o _,_],_,_,h=>.inl<|Wj h
 | [x,.i _ _,.b _],_,_,h=>.inl<|Wj h
 | [x,.i _ _,.p _ _],_,_,h=>.inl<|Wj h
 | [x,.i _ _,.s _ _ _ _ _],_,_,h=>.inl<|Wj h
 | [x,.i _ _,.o _],_,_,h=>.inl<|Wj h
def Sw(a b m lo:Nat)(H:Heap)(c:a<=928)(d:b<=928):run cpO (m+3) lo 176 [tV,.int .i64 a,.int .i64 b] H=some (.inl<|.int .i64 ((a*b%929:Nat):Int),H++[some [.int .i64 929,.int .i64 929,.int .i64 0]]):=by
 have f:Heap.get (H++[some [.int .i64 929,.int .i64 929,.int .i64 0]]) H.length=some [.int .i64 929,.int .i64 929,.int .i64 0]:=aX _ _;unfold run;rw[show cpO 176=some GU from rfl];simp[GU,GA,tV,kB];have h:=Nat.mul_le_mul c d;have g:IntKind.i64.wrap ((a:Int)*(b:Int))=((a*b:Nat):Int):=by
  rw[<-Int.natCast_mul];exact wrap_i64 byO byO
 have e:(Value.agg #[Value.int .i64 929,.int .i64 929,.int .i64 0]).cells.toList=[Value.int .i64 929,.int .i64 929,.int .i64 0]:=rfl;simp[exec,evSets,evChk,ev,ev1,holds,hsem,aG,setAll,aZ,az,e,f,Heap.cells,g,evList,aR];exact Int.tmod_eq_emod_of_nonneg (by rw[<-Int.natCast_mul];omega)
def JP:Dn cpO scA 100:=by
 intro f args k d h;unfold scA at h;rcases l:Nat.beq f 176 with _|_
 .rw[l]at h
  have h:bB (Nat.beq f 109) _ d=true:=h;rcases n:Nat.beq f 109 with _|_
  .rw[n]at h;exact .inl h
  .rw[n]at h
   have e:=Nat.eq_of_beq_eq_true n;subst e
   match args,h with
   | [],h=>exact .inl h
   | x::y::r,h=>exact .inl h
   | [.i u a],h=>
    have h:bB (Nat.beq (idI u) 3) (bB (Nat.beq a 929) (k (.b true) 0) d) d=true:=h;rcases g:Nat.beq (idI u) 3 with _|_
    .rw[g]at h;exact .inl h
    rw[g]at h;have h:bB (Nat.beq a 929) (k (.b true) 0) d=true:=h;rcases j:Nat.beq a 929 with _|_
    .rw[j]at h;exact .inl h
    rw[j]at h;have v:=P4 g;have w:=Nat.eq_of_beq_eq_true j;subst v w;exact .inr ⟨_,_,h,λm t lo H _=>⟨[],rfl,by rw[List.append_nil];exact sL TP m _ _ _ _ _<|l9 t _ _ _ _ _<|Qb lo H⟩⟩
   | [.b _],h=>exact .inl h
   | [.p _ _],h=>exact .inl h
   | [.s _ _ _ _ _],h=>exact .inl h
   | [.o _],h=>exact .inl h
 .rw[l]at h
  have e:=Nat.eq_of_beq_eq_true l;subst e;rcases Wi h with h|⟨a,b,z,A,e,c⟩
  .exact .inl h
  rw[gf]at c;refine .inr ⟨_,_,c,λm t lo H _=>⟨[some [.int .i64 929,.int .i64 929,.int .i64 0]],rfl,?_⟩⟩;obtain⟨m,rfl⟩:∃q,m=q+3:=⟨m-3,byO⟩;rw[e];exact Sw a b m lo H z A
set_option maxHeartbeats 0 in
theorem VI:nz cpO scA 100 1000 0 175 [.o tV] (.mk 0 .e) (M4 (.int .i64 3) 1394)=true:=Wf
theorem Wk:((List.range 929).all λa=>fN a λa=>nz cpO scA 100 1000 0 132 [.o tV,.i .i64 a,.i .i64 3] (.mk 0 .e)<|M4 (.tuple #[.int .i64<|.ofNat<|Nat.mod (Nat.mul a 3) 929,.int .i64 0]) 5)=true:=Wf
noncomputable def scS:SC:=λf args k d=>bB (Nat.beq f 132) (sc3 args (λa b=>bB (Nat.beq b 3) (fN (Nat.mod (Nat.mul a 3) 929) λn=>k (.o<|.tuple #[.int .i64<|.ofNat n,.int .i64 0]) 5) d) d)<|bB (Nat.beq f 175) (l1 args (λx=>bB (eq3 (toV x) tV) (k (.i .i64 3) 1394) d) d)<|scA f args k d
def yV:Dn cpO scS 1100:=by
 intro f args k d h;unfold scS at h;rcases j:Nat.beq f 132 with _|_;rotate_left
 .rw[j]at h
  have e:=Nat.eq_of_beq_eq_true j;subst e;rcases Wi h with h|⟨a,b,B,C,e,c⟩
  .exact .inl h
  rcases q:Nat.beq b 3 with _|_<;>rw[q]at c
  .exact .inl c
  have u:=Nat.eq_of_beq_eq_true q;subst u;replace c:fN (Nat.mod (Nat.mul a 3) 929) (λn=>k (.o<|.tuple #[.int .i64<|.ofNat n,.int .i64 0]) 5)=true:=c;rw[gf]at c;have t:=List.all_eq_true.1 Wk a<|List.mem_range.2 byO;rw[gf]at t;refine .inr ⟨_,_,c,?_⟩;rw[e];exact BB uT JP t rfl λ_=>rfl
 rw[j]at h;replace h:bB (Nat.beq f 175) _ _=true:=h;rcases j:Nat.beq f 175 with _|_
 .rw[j]at h
  rcases JP f args k d h with h|⟨v,g,w,z⟩
  .exact .inl h
  .exact .inr ⟨v,g,w,λm s=>z m byO⟩
 .rw[j]at h
  have e:=Nat.eq_of_beq_eq_true j;subst e
  match args,h with
  | [],h=>exact .inl h
  | x::y::r,h=>exact .inl h
  | [x],h=>
   have h:bB (eq3 (toV x) tV) (k (.i .i64 3) 1394) d=true:=h;rcases l:eq3 (toV x) tV with _|_
   .rw[l]at h;exact .inl h
   rw[l]at h;have A:toV x=tV:=tN l;refine .inr ⟨_,_,h,?_⟩;have:=BB uT JP VI rfl λ_=>rfl;intro m s lo H p;show ∃G:Heap,G.length=1394/\run cpO m lo 175 [toV x] H=_;rw[A];exact this m s lo H p
def prs:List<|Nat×Nat:=[(0,0),(1,0),(2,0),(3,0),(0,1),(0,2),(1,1),(1,2),(2,1),(2,2),(3,1),(3,2)]
def gar(s h v:Nat):Nat:=match rdS s h v with
 | some (c,_,_)=>if c<0 then 5 else 3
 | none=>3
theorem Wp:(prs.all λp=>(List.range 30).all λv=>fN v λv=>nz cpO scA 100 1000 0 187 [.o<|stV p.1 p.2,.i .i64 v] (.mk 0 .e)<|M4 (Iz p.1 p.2 v)<|gar p.1 p.2 v)=true:=Wf
def Wn(s h v:Nat)(k:Mv):QT k (Iz s h v)=Iz s h v:=by unfold Iz;split<;>rfl
noncomputable def fnd(l:List<|Nat×Nat)(x:FV)(v:Nat)(k:FV->Nat->Bool)(d:Bool):Bool:=List.rec (motive:=λ_=>Bool) d (λp _ ih=>bB (eq3 (toV x)<|stV p.1 p.2) (k (.o<|Iz p.1 p.2 v)<|gar p.1 p.2 v) ih) l
def Wm{x:FV}{v:Nat}{k:FV->Nat->Bool}{d:Bool}:∀{l:List<|Nat×Nat},fnd l x v k d=true->d=true\/∃p ∈ l,toV x=stV p.1 p.2/\k (.o<|Iz p.1 p.2 v) (gar p.1 p.2 v)=true
 | [],h=>.inl h
 | p::l,h=>by
  replace h:bB (eq3 (toV x)<|stV p.1 p.2) (k (.o<|Iz p.1 p.2 v)<|gar p.1 p.2 v) (fnd l x v k d)=true:=h;rcases a:eq3 (toV x) (stV p.1 p.2)with _|_<;>rw[a]at h
  .rcases Wm (l:=l) h with h|⟨q,b,c⟩
   .exact .inl h
   .exact .inr ⟨q,List.mem_cons_of_mem _ b,c⟩
  .exact .inr ⟨p,List.mem_cons_self,tN a,h⟩
noncomputable def scG:SC:=λf args k d=>bB (Nat.beq f 187) (l2 args (λx y=>cI y (λkd v=>bB (Nat.beq (idI kd) 3) (bB (Nat.ble v 29) (fnd prs x v k d) d) d) d) d)<|scS f args k d
def Wo:Dn cpO scG 1100:=by
 intro f args k d h;unfold scG at h;rcases g:Nat.beq f 187 with _|_<;>rw[g]at h
 .exact yV f args k d h
 have e:=Nat.eq_of_beq_eq_true g;subst e
 match args,h with
 | [],h=>exact .inl h
 | [_],h=>exact .inl h
 | _::_::_::_,h=>exact .inl h
 | [_,.b _],h=>exact .inl h
 | [_,.p _ _],h=>exact .inl h
 | [_,.s _ _ _ _ _],h=>exact .inl h
 | [_,.o _],h=>exact .inl h
 | [x,.i kd v],h=>
  replace h:bB (Nat.beq (idI kd) 3) (bB (Nat.ble v 29) (fnd prs x v k d) d) d=true:=h;rcases a:Nat.beq (idI kd) 3 with _|_<;>rw[a]at h
  .exact .inl h
  replace h:bB (Nat.ble v 29) (fnd prs x v k d) d=true:=h;rcases c:Nat.ble v 29 with _|_<;>rw[c]at h
  .exact .inl h
  have l:=P4 a;subst l;replace h:fnd prs x v k d=true:=h;rcases Wm h with h|⟨p,r,n,q⟩
  .exact .inl h
  have j:=List.all_eq_true.1 (List.all_eq_true.1 Wp p r) v<|List.mem_range.2<|Nat.lt_succ_of_le<|Nat.le_of_ble_eq_true c;rw[gf]at j;refine .inr ⟨_,_,q,?_⟩;show ∀m,1100<=m->∀(lo:Nat) (H:Heap),lo<=H.length->∃G:Heap,G.length=_/\run cpO m lo 187 [toV x,.int .i64 v] H=_;rw[n];exact BB uT JP j rfl<|Wn _ _ _
end Go.Proofs.YtgiojnobcjnibaaGreatDoor
