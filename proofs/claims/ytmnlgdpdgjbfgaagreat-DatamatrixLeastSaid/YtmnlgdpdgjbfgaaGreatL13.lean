/- Lemmas. -/
import Derived.Test.YtmnlgdpdgjbfgaaGreatL12
set_option linter.all false
namespace Go.Abs
theorem jG{β:Type}{l:List β}{f:β->Bool}(h:l1 l f false=true):∃x,l=[x]/\f x=true:=by
 rcases l with _|⟨x,_|⟨y,r⟩⟩
 ·cases h
 ·exact⟨x,rfl,h⟩
 ·cases h
theorem rD{β:Type}{l:List β}{f:β->β->Bool}{d:Bool}(h:l2 l f d=true):(∃x y,l=[x,y]/\f x y=true)\/d=true:=by
 rcases l with _|⟨x,_|⟨y,_|⟨z,r⟩⟩⟩
 ·exact .inr h
 ·exact .inr h
 ·exact .inl ⟨x,y,rfl,h⟩
 ·exact .inr h
theorem sw{x:FV}{f:IntKind->Nat->Bool}{d:Bool}(h:cI x f d=true):(∃k n,x=.i k n/\f k n=true)\/d=true:=by
 cases x<;>first|exact .inl ⟨_,_,rfl,h⟩|exact .inr h
theorem Jl{x:FV}{f:Bool->Bool}{d:Bool}(h:cB x f d=true):(∃b,x=.b b/\f b=true)\/d=true:=by
 cases x<;>first|exact .inl ⟨_,rfl,h⟩|exact .inr h
theorem v9{x:FV}{f:Nat->Nat->Bool}{d:Bool}(h:cP x f d=true):(∃b o,x=.p b o/\f b o=true)\/d=true:=by
 cases x<;>first|exact .inl ⟨_,_,rfl,h⟩|exact .inr h
theorem sx{x:FV}{f:Nat->Nat->Nat->Nat->Option Nat->Bool}{d:Bool}(h:cS x f d=true):(∃b o l c s,x=.s b o l c s/\f b o l c s=true)\/d=true:=by
 cases x<;>first|exact .inl ⟨_,_,_,_,_,rfl,h⟩|exact .inr h
theorem v8{x:FV}{f:Value->Bool}{d:Bool}(h:cO x f d=true):(∃v,x=.o v/\f v=true)\/d=true:=by
 cases x<;>first|exact .inl ⟨_,rfl,h⟩|exact .inr h
theorem tA(b o n:Nat):Heap.cells [] b o n=none:=by simp[Heap.cells,Heap.get]
theorem EE{o:LOp}{vs:List Value}{H:Heap}{v:Value}(h:aH o vs []=some v):aH o vs H=some v:=by
 cases hr:eV o
 ·rw[<-pP hr vs [] H];exact h
 ·cases o<;>simp only[eV]at hr<;>try cases hr
  all_goals
   simp only[aH]at h ⊢;split at h
   all_goals (try rename_i heq)
   all_goals first
    | (cases heq;done)
    | (simp only[tA]at h;simp at h;done)
    | (split at h<;>simp only[tA]at h<;>simp at h;done)
    | exact h
    | (simp at h;done)
    | (simp only[reduceCtorEq]at h)
theorem eO{o:LOp}{vs:List FV}{F:FH}{H:Heap}{k:FV->Bool}(h:eY o vs F k=true):∃x,aH o (toL vs) H=some (toV x)/\k x=true:=by
 obtain⟨v,hv,h⟩:=pR h;obtain⟨x,hx,h2⟩:=ui h;subst hx;exact⟨x,EE hv,h2⟩
theorem N7{kd:IntKind}{n:Nat}(h:n<=rK kd):kd.wrap (n:Int)=n:=by
 cases kd<;>simp only[rK]at h<;>simp[IntKind.wrap,IntKind.bits,IntKind.signed]<;>omega
theorem jW{kd:IntKind}{n:Nat}{k:FV->Bool}{d:Bool}(h:okN kd n k d=true):(kd.wrap (n:Int)=n/\k (.i kd n)=true)\/d=true:=by
 refine dY h (fun hb h=>.inl ?_) (fun _ h=>.inr h);rw[eU]at h;exact⟨N7 (Nat.le_of_ble_eq_true hb),h⟩
theorem lN{kd:IntKind}{n:Nat}(h:n<=rK kd):n<2^kd.bits:=by
 cases kd<;>simp only[rK]at h<;>simp[IntKind.bits]<;>omega
theorem Cb(kd:IntKind):LD kd=kd.bits:=by cases kd<;>rfl
theorem id_eq{k k':IntKind}(h:Nat.beq (idI k) (idI k')=true):k=k':=by cases k<;>cases k'<;>first|rfl|cases h
theorem Fa{b:Bool}{k:FV->Bool}(h:tf b k=true):k (.b b)=true:=by cases b<;>exact h
theorem Ah{b:Bool}{k:FV->Bool}(h:tn b k=true):k (.b !b)=true:=by cases b<;>exact h
theorem AN(a b:Nat):Nat.beq a b=decide (a=b):=by
 by_cases h:a=b
 ·subst h;simp
 ·simp only[h,decide_false];cases hb:Nat.beq a b
  ·rfl
  ·exact absurd (Nat.eq_of_beq_eq_true hb) h
theorem gz(a b:Nat):Nat.ble a b=decide (a<=b):=by
 by_cases h:a<=b
 ·simp only[h,decide_true];exact Nat.ble_eq_true_of_le h
 ·simp only[h,decide_false];cases hb:Nat.ble a b
  ·rfl
  ·exact absurd (Nat.le_of_ble_eq_true hb) h
theorem bvn{n w:Nat}(h:n<2^w):(BitVec.ofInt w (n:Int)).toNat=n:=by
 simp only[BitVec.toNat_ofInt];have:((n:Int)%((2^w:Nat):Int)).toNat=n:=by
  rw[<-Int.natCast_emod,Nat.mod_eq_of_lt h];rfl
 simpa using this
theorem GF{op:BinOp}{kd kd':IntKind}{a b:Nat}{k:FV->Bool}{d:Bool}(hk:ke op=true\/kd=kd')(h:OU op kd a b k d=true):(∃x,ay op (.int kd a) (.int kd' b)=some (toV x)/\k x=true)\/d=true:=by
 cases op
 case add=>
  obtain rfl:=hk.resolve_left (by simp[ke]);rcases jW h with ⟨h1,h2⟩|h
  ·exact .inl ⟨_,by simpa[ay,bI,toV]using h1,h2⟩
  ·exact .inr h
 case sub=>
  obtain rfl:=hk.resolve_left (by simp[ke]);refine dY h (fun hb h=>?_) (fun _ h=>.inr h);rcases jW h with ⟨h1,h2⟩|h
  ·have hb:b<=a:=Nat.le_of_ble_eq_true hb
   have e:((Nat.sub a b:Nat):Int)=(a:Int)-b:=Int.ofNat_sub hb;rw[e]at h1;exact .inl ⟨_,by simp only[ay,bI,toV,if_true,h1];rw[<-e];rfl,h2⟩
  ·exact .inr h
 case mul=>
  obtain rfl:=hk.resolve_left (by simp[ke]);rcases jW h with ⟨h1,h2⟩|h
  ·exact .inl ⟨_,by simpa[ay,bI,toV]using h1,h2⟩
  ·exact .inr h
 case quo=>
  obtain rfl:=hk.resolve_left (by simp[ke]);refine dY h (fun _ h=>.inr h) (fun hb h=>?_);rcases jW h with ⟨h1,h2⟩|h
  ·have hb:b≠0:=Nat.ne_of_beq_eq_false hb
   have e:(a:Int).tdiv b=((Nat.div a b:Nat):Int):=rfl;exact .inl ⟨_,by simp only[ay,bI,toV,if_true,e,h1];simp[hb],h2⟩
  ·exact .inr h
 case rem=>
  obtain rfl:=hk.resolve_left (by simp[ke]);refine dY h (fun _ h=>.inr h) (fun hb h=>?_);rcases jW h with ⟨h1,h2⟩|h
  ·have hb:b≠0:=Nat.ne_of_beq_eq_false hb
   exact .inl ⟨_,by simp[ay,bI,toV,hb];rfl,h2⟩
  ·exact .inr h
 case and=>
  obtain rfl:=hk.resolve_left (by simp[ke]);refine dY h (fun ha h=>?_) (fun _ h=>.inr h);refine dY h (fun hb h=>?_) (fun _ h=>.inr h);rcases jW h with ⟨h1,h2⟩|h
  ·refine .inl ⟨_,?_,h2⟩
   have h1:kd.wrap ((a &&& b:Nat):Int)=((a &&& b:Nat):Int):=h1;simp only[ay,bI,if_true,toV,BitVec.toNat_and,bvn (lN (Nat.le_of_ble_eq_true ha)),bvn (lN (Nat.le_of_ble_eq_true hb)),h1];rfl
  ·exact .inr h
 case or=>
  obtain rfl:=hk.resolve_left (by simp[ke]);refine dY h (fun ha h=>?_) (fun _ h=>.inr h);refine dY h (fun hb h=>?_) (fun _ h=>.inr h);rcases jW h with ⟨h1,h2⟩|h
  ·refine .inl ⟨_,?_,h2⟩
   have h1:kd.wrap ((a ||| b:Nat):Int)=((a ||| b:Nat):Int):=h1;simp only[ay,bI,if_true,toV,BitVec.toNat_or,bvn (lN (Nat.le_of_ble_eq_true ha)),bvn (lN (Nat.le_of_ble_eq_true hb)),h1];rfl
  ·exact .inr h
 case xor=>
  obtain rfl:=hk.resolve_left (by simp[ke]);refine dY h (fun ha h=>?_) (fun _ h=>.inr h);refine dY h (fun hb h=>?_) (fun _ h=>.inr h);rcases jW h with ⟨h1,h2⟩|h
  ·refine .inl ⟨_,?_,h2⟩
   have h1:kd.wrap ((a ^^^ b:Nat):Int)=((a ^^^ b:Nat):Int):=h1;simp only[ay,bI,if_true,toV,BitVec.toNat_xor,bvn (lN (Nat.le_of_ble_eq_true ha)),bvn (lN (Nat.le_of_ble_eq_true hb)),h1];rfl
  ·exact .inr h
 case andNot=>exact .inr h
 case shl=>
  refine dY h (fun hb h=>?_) (fun _ h=>.inr h);have hb:=Nat.le_of_ble_eq_true hb;rw[Cb]at hb;rcases jW h with ⟨h1,h2⟩|h
  ·refine .inl ⟨_,?_,h2⟩
   have h1:kd.wrap ((a*2^b:Nat):Int)=((a*2^b:Nat):Int):=h1;have e:(a:Int)*2^b=((a*2^b:Nat):Int):=by simp
   simp only[ay,gN,toV,Int.toNat_natCast,Nat.min_eq_left hb,e,h1];rw[if_neg byO];rfl
  ·exact .inr h
 case shr=>
  refine dY h (fun hb h=>?_) (fun _ h=>.inr h);have hb:=Nat.le_of_ble_eq_true hb;rw[Cb]at hb;rw[eU]at h;refine .inl ⟨_,?_,h⟩;have e:(a:Int).fdiv (2^b)=((a/2^b:Nat):Int):=by
   rw[Int.fdiv_eq_ediv_of_nonneg _ (by exact_mod_cast Nat.zero_le _)];simp
  simp only[ay,gN,toV,Int.toNat_natCast,Nat.min_eq_left hb,e];rw[if_neg byO];rfl
 case eql=>
  obtain rfl:=hk.resolve_left (by simp[ke]);refine .inl ⟨_,?_,Fa h⟩;simp only[ay,bI,if_true,toV,AN,ab₀,Value.bool.injEq];by_cases e:a=b
  ·simp[e]
  ·simp[e];omega
 case neq=>
  obtain rfl:=hk.resolve_left (by simp[ke]);refine .inl ⟨_,?_,Ah h⟩;simp only[ay,bI,if_true,toV,AN,ab₀,Value.bool.injEq];by_cases e:a=b
  ·simp[e,bne]
  ·simp[e,bne];omega
 case lss=>
  obtain rfl:=hk.resolve_left (by simp[ke]);refine .inl ⟨_,?_,Ah h⟩;simp only[ay,bI,if_true,toV,gz,ab₀,Value.bool.injEq];by_cases e:a<b<;>simp[e]<;>omega
 case leq=>
  obtain rfl:=hk.resolve_left (by simp[ke]);refine .inl ⟨_,?_,Fa h⟩;simp only[ay,bI,if_true,toV,gz,ab₀,Value.bool.injEq];by_cases e:a<=b<;>simp[e]
 case gtr=>
  obtain rfl:=hk.resolve_left (by simp[ke]);refine .inl ⟨_,?_,Ah h⟩;simp only[ay,bI,if_true,toV,gz,ab₀,Value.bool.injEq];by_cases e:a<=b<;>simp[e]<;>omega
 case geq=>
  obtain rfl:=hk.resolve_left (by simp[ke]);refine .inl ⟨_,?_,Fa h⟩;simp only[ay,bI,if_true,toV,gz,ab₀,Value.bool.injEq];by_cases e:b<=a<;>simp[e]
theorem kX(x:FV):toL [x]=[toV x]:=rfl
theorem xU(x y:FV):toL [x,y]=[toV x,toV y]:=rfl
theorem D4{o:LOp}{vs:List FV}{F:FH}{H:Heap}(r:RH F H){k:FV->Bool}(h:Jv o vs F k=true):∃x,aH o (toL vs) H=some (toV x)/\k x=true:=by
 cases o
 case mv=>obtain⟨x,rfl,h1⟩:=jG h;exact⟨x,rfl,h1⟩
 case bin op=>
  rcases rD h with ⟨x,y,rfl,h1⟩|h
  ·rcases sw h1 with ⟨kd,a,rfl,h2⟩|h
   ·rcases sw h2 with ⟨kd',b,rfl,h3⟩|h
    ·refine dY h3 (fun hb h=>?_) (fun _ h=>eO h)
     have hk:ke op=true\/kd=kd':=by
      cases hs:ke op
      ·rw[hs]at hb;exact .inr (id_eq hb)
      ·exact .inl rfl
     rcases GF hk h with ⟨x,h1,h2⟩|h
     ·exact⟨x,h1,h2⟩
     ·exact eO h
    ·exact eO h
   ·exact eO h
  ·exact eO h
 case ld n agg=>
  cases agg
  ·obtain⟨x,rfl,h1⟩:=jG h
   obtain⟨b,o,rfl,h2⟩:=(v9 h1).resolve_right (by simp);obtain⟨u,l,h3,r1,hg,_⟩:=qK r h2;obtain⟨x,hx,h4⟩:=pR h3;rw[r1]at hx;obtain⟨ho,he⟩:=List.getElem?_eq_some_iff.1 hx;refine⟨x,?_,h4⟩;simp[kX,toV,aH,Heap.cells,hg,fU,show o+1<=l.length from ho,List.head?_take,hx]
  ·obtain⟨x,rfl,h1⟩:=jG h
   obtain⟨b,o,rfl,h2⟩:=(v9 h1).resolve_right (by simp);obtain⟨l,h3,_,hc⟩:=A6 r h2;exact⟨_,by simp[kX,toV,aH,hc],h3⟩
 case fAddr off=>
  obtain⟨x,rfl,h1⟩:=jG h;obtain⟨b,o,rfl,h2⟩:=(v9 h1).resolve_right (by simp);rw[eU]at h2;exact⟨_,rfl,h2⟩
 case iAddr sz=>
  obtain⟨x,y,rfl,h1⟩:=(rD h).resolve_right (by simp);obtain⟨b,o,l,c,s,rfl,h2⟩:=(sx h1).resolve_right (by simp);obtain⟨kd,i,rfl,h3⟩:=(sw h2).resolve_right (by simp);obtain⟨hb,h4⟩:=dt h3;rw[eU]at h4;have hb:i<l:=Nat.le_of_ble_eq_true hb;refine⟨_,?_,h4⟩;simp[xU,toV,aH,hb]
 case len=>
  obtain⟨x,rfl,h1⟩:=jG h;rcases sx h1 with ⟨b,o,l,c,s,rfl,h2⟩|h2
  ·exact⟨_,rfl,h2⟩
  ·exact eO h2
 case b2s=>
  obtain⟨x,rfl,h1⟩:=jG h;rcases sx h1 with ⟨b,o,l,c,s,rfl,h2⟩|h2
  ·obtain⟨m,h3,_,hc⟩:=A6 r h2
   obtain⟨w,hw,h4⟩:=pR h3;exact⟨_,by simp[kX,toV,aH,hc,hw],h4⟩
  ·exact eO h2
 case nilChk=>
  obtain⟨x,rfl,h1⟩:=jG h;rcases v9 h1 with ⟨b,o,rfl,h2⟩|h2
  ·exact⟨_,rfl,h2⟩
  ·exact eO h2
 case un u=>
  obtain⟨x,rfl,h1⟩:=jG h;rcases Jl h1 with ⟨b,rfl,h2⟩|h2
  ·cases u
   case not=>exact⟨_,rfl,Ah h2⟩
   all_goals exact eO h2
  ·exact eO h2
 case cvt kd=>
  obtain⟨x,rfl,h1⟩:=jG h;rcases sw h1 with ⟨kd',n,rfl,h2⟩|h2
  ·rcases jW h2 with ⟨h3,h4⟩|h4
   ·exact⟨_,by simp only[kX,toV,aH];rw[show Int.ofNat n=(n:Int) from rfl,h3],h4⟩
   ·exact eO h4
  ·exact eO h2
 all_goals exact eO (F:=F) h
def RS(F:FS)(S:List Value):Prop:=∃l,Rep F l/\S=toL l
theorem RS.get{F:FS}{S:List Value}(r:RS F S){j:Nat}{x:FV}(h:F.get j=some x):S[j]?=some (toV x):=by
 obtain⟨l,r,rfl⟩:=r;rw[r]at h;simp[fU,h]
theorem RS.set{F:FS}{S:List Value}(r:RS F S){j:Nat}{x:FV}{k:FS->Bool}(h:F.set j x k=true):∃F',k F'=true/\RS F' (S.set j (toV x)):=by
 obtain⟨l,r,rfl⟩:=r;obtain⟨F',h1,_,r1⟩:=T.set_rep r h;exact⟨F',h1,_,r1,by simp[fU]⟩
def Qp(e:E):Prop:=∀{F:FS} {S:List Value} {A:FH} {H:Heap} {acc:List FV} {k:List FV->Bool},RS F S->RH A H->fev e F A acc k=true->∃xs,ev S H e=some (toL xs)/\k (xs++acc)=true
theorem yZ{l:List FV}{a b:Bool}(h:isB l a b=true):(l=[.b true]/\a=true)\/(l=[.b false]/\b=true):=by
 obtain⟨x,rfl,h1⟩:=jG h;obtain⟨c,rfl,h2⟩:=(Jl h1).resolve_right (by simp);refine dY h2 (fun hc h=>.inl ?_) (fun hc h=>.inr ?_)
 ·subst hc;exact⟨rfl,h⟩
 ·subst hc;exact⟨rfl,h⟩
theorem qj(e:E):Qp e:=by
 induction e with
 | var j=>
  intro F S A H acc k rs rh h;obtain⟨x,hx,h1⟩:=pR h;exact⟨[x],by simp[ev,rs.get hx,kX],h1⟩
 | cst v=>
  intro F S A H acc k rs rh h;obtain⟨x,hx,h1⟩:=ui h;exact⟨[x],by simp[ev,kX,hx],h1⟩
 | nil=>intro F S A H acc k rs rh h;exact⟨[],rfl,h⟩
 | cons a b iha ihb=>
  intro F S A H acc k rs rh h;obtain⟨ys,h1,h2⟩:=ihb rs rh h;obtain⟨xs,h3,h4⟩:=iha rs rh h2;exact⟨xs++ys,by simp[ev,h1,h3,vS],by rw[ba₀];exact h4⟩
 | node o a ih=>
  intro F S A H acc k rs rh h;obtain⟨xs,h1,h2⟩:=ih rs rh h;rw[List.append_nil]at h2;obtain⟨x,h3,h4⟩:=D4 rh h2;exact⟨[x],by simp[ev,h1,h3,kX],h4⟩
 | pick c a b ihc iha ihb=>
  intro F S A H acc k rs rh h;obtain⟨xs,h1,h2⟩:=ihc rs rh h;rw[List.append_nil]at h2;rcases yZ h2 with ⟨rfl,h3⟩|⟨rfl,h3⟩
  ·obtain⟨ys,h4,h5⟩:=iha rs rh h3
   exact⟨ys,by simp[ev,h1,h4,kX,toV],h5⟩
  ·obtain⟨ys,h4,h5⟩:=ihb rs rh h3
   exact⟨ys,by simp[ev,h1,h4,kX,toV],h5⟩
theorem pr{e:E}{F:FS}{S:List Value}{A:FH}{H:Heap}(rs:RS F S)(rh:RH A H){k:FV->Bool}(h:yP e F A k=true):∃x,ev1 S H e=some (toV x)/\k x=true:=by
 obtain⟨xs,h1,h2⟩:=qj e rs rh h;rw[List.append_nil]at h2;obtain⟨x,rfl,h3⟩:=jG h2;exact⟨x,by simp[ev1,h1,kX],h3⟩
theorem qp{F:FS}{S:List Value}{A:FH}{H:Heap}(rs:RS F S)(rh:RH A H):∀(l:List (Nat×E)) {G:FS} {B:List Value} {k:FS->Bool},RS G B->zo l F A G k=true->∃vs G',evSets S H l=some vs/\RS G' (setAll B vs)/\k G'=true
 | [],G,B,k,rg,h=>⟨[],G,rfl,rg,h⟩
 | (j,e)::l,G,B,k,rg,h=>by
  obtain⟨x,h1,h2⟩:=pr rs rh (show yP e F A (fun v=>G.set j v fun A'=>zo l F A A' k)=true from h);obtain⟨G1,h3,r1⟩:=rg.set h2;obtain⟨vs,G2,h4,r2,h5⟩:=qp rs rh l r1 h3;exact⟨(j,toV x)::vs,G2,by simp[evSets,h1,h4],r2,h5⟩
theorem uR{F:FS}{S:List Value}{A:FH}{H:Heap}(rs:RS F S)(rh:RH A H):∀(l:List E) {k:Bool},Gc l F A k=true->evChk S H l=true/\k=true
 | [],k,h=>⟨rfl,h⟩
 | e::l,k,h=>by
  obtain⟨xs,h1,h2⟩:=qj e rs rh (show fev e F A [] (fun _=>Gc l F A k)=true from h);obtain⟨h3,h4⟩:=uR rs rh l h2;exact⟨by simp[evChk,h1,h3],h4⟩
theorem yS{F:FS}{S:List Value}{A:FH}{H:Heap}(rs:RS F S)(rh:RH A H):∀(l:PC) {y n:Bool},fpc l F A y n=true->(holds S H l=some true/\y=true)\/(holds S H l=some false/\n=true)
 | [],y,n,h=>.inl ⟨rfl,h⟩
 | (c,w)::l,y,n,h=>by
  obtain⟨xs,h1,h2⟩:=qj c rs rh (show fev c F A [] (fun t=>isB t (bB w (fpc l F A y n) n) (bB w n (fpc l F A y n)))=true from h);rw[List.append_nil]at h2;rcases yZ h2 with ⟨rfl,h3⟩|⟨rfl,h3⟩
  ·cases w
   ·exact .inr ⟨by simp[holds,ev1,h1,kX,toV],h3⟩
   ·rcases yS rs rh l h3 with ⟨h4,h5⟩|⟨h4,h5⟩
    ·exact .inl ⟨by simp[holds,ev1,h1,kX,toV,h4],h5⟩
    ·exact .inr ⟨by simp[holds,ev1,h1,kX,toV,h4],h5⟩
  ·cases w
   ·rcases yS rs rh l h3 with ⟨h4,h5⟩|⟨h4,h5⟩
    ·exact .inl ⟨by simp[holds,ev1,h1,kX,toV,h4],h5⟩
    ·exact .inr ⟨by simp[holds,ev1,h1,kX,toV,h4],h5⟩
   ·exact .inr ⟨by simp[holds,ev1,h1,kX,toV],h3⟩
def xd(sem:Option (Value×Heap))(k:FV->FH->Bool):Prop:=∃x A' H',sem=some (toV x,H')/\RH A' H'/\k x A'=true
theorem sy{x:FV}{k:List FV->Bool}(h:xl x k=true):∃l,toL l=(toV x).cells.toList/\k l=true:=by
 rcases x with _|_|_|_|v
 ·exact⟨_,rfl,h⟩
 ·exact⟨_,rfl,h⟩
 ·exact⟨_,rfl,h⟩
 ·exact⟨_,rfl,h⟩
 ·exact kJ h
theorem C1{lo sz l c n:Nat}{new:List FV}{A:FH}{H:Heap}(rh:RH A H){k:FV->FH->Bool}(h:Jr sz l c new n A k=true):xd (aU lo sz (.slice none l c) (toL new) n H) k:=by
 refine dY h (fun hb h=>?_) (fun hb h=>?_)
 ·rw[eU]at h
  exact⟨_,A,H,by simp only[aU,if_pos (show l+n<=c from Nat.le_of_ble_eq_true hb)];rfl,rh,h⟩
 ·obtain⟨h1,h2⟩:=dt h
  obtain⟨h3,h4⟩:=dt h2;have h3:=Nat.eq_of_beq_eq_true h3;obtain⟨A',h5,r⟩:=ji rh h4;rw[gz]at hb h1;simp only[ai₀,af₀]at hb h1;have hn:¬ bh<l+n:=by unfold bh;exact Nat.not_lt.2 h1
  exact⟨_,A',_,by simp only[aU,if_neg (show ¬ l+n<=c from hb),if_neg hn,if_pos h3];rfl,r,h5⟩
theorem C2{lo sz b o l c n:Nat}{sp:Option Nat}{new:List FV}{A:FH}{H:Heap}(rh:RH A H){k:FV->FH->Bool}(h:Oe lo sz b o l c sp new n A k=true):xd (aU lo sz (.slice (some ⟨b,o,sp⟩) l c) (toL new) n H) k:=by
 refine dY h (fun hb h=>?_) (fun hb h=>?_)
 ·rw[gz]at hb
  simp only[af₀]at hb;obtain⟨h1,h2⟩:=dt h;have hs:sp=none\/sp=some sz:=by
   cases sp with
   | none=>exact .inl rfl
   | some z=>exact .inr (by rw[Nat.eq_of_beq_eq_true h1])
  obtain⟨A',H',h3,h4,r⟩:=Fo rh h2;rw[eU]at h3;have h4:H.put lo b (o+l*sz) (toL new)=some H':=h4;exact⟨_,A',H',by simp only[aU,if_pos (show l+n<=c from hb),if_pos hs,h4];rfl,r,h3⟩
 ·rw[gz]at hb
  simp only[ai₀]at hb;obtain⟨h1,h2⟩:=dt h;rw[gz]at h1;simp only[af₀]at h1;obtain⟨u,old,h3,r1,hg,hlt⟩:=qK rh h2;have tail:∀{A2:FH} {H2:Heap},RH A2 H2->H2.length=H.length ->
    (fN (Nat.mul l sz) fun ln=>(fun(go:T FV->Bool)=>bB (Nat.beq o 0) (bB (Nat.beq ln old.length) (go u) (bB (Nat.ble ln old.length) (u.rd o ln [] fun l=>T.insL l 0 .e go) false)) (bB (Nat.ble (Nat.add o ln) old.length) (u.rd o ln [] fun l=>T.insL l 0 .e go) false)) fun t=>
     T.insL new ln t fun t=>fN (Nat.add ln new.length) fun m=>A2.push (.mk m t) fun c H=>fN (Nat.add l n) fun l=>k (.s c 0 l l (some sz)) H)=true ->
    ∃old',H.cells b o (l*sz)=some old'/\∃A',k (.s H.length 0 (l+n) (l+n) (some sz)) A'=true/\RH A' (H2++[some (old'++toL new)]):=by
   intro A2 H2 r2 hl h;rw[eU]at h;have fin:∀{t:T FV} {c:List FV},Rep t c->c.length=l*sz->H.cells b o (l*sz)=some (toL c) ->
     (T.insL new (Nat.mul l sz) t fun t=>fN (Nat.add (Nat.mul l sz) new.length) fun m=>A2.push (.mk m t) fun c H=>fN (Nat.add l n) fun l=>k (.s c 0 l l (some sz)) H)=true ->
     ∃old',H.cells b o (l*sz)=some old'/\∃A',k (.s H.length 0 (l+n) (l+n) (some sz)) A'=true/\RH A' (H2++[some (old'++toL new)]):=by
    intro t c hr hc hh h;obtain⟨t2,h5,r5⟩:=T.insL_rep new hr (show Nat.mul l sz=c.length from hc.symm) h;simp only[eU]at h5;obtain⟨A',h6,r6⟩:=uv r2 (x:=.mk (Nat.add (Nat.mul l sz) new.length) t2) (y:=some (toL c++toL new)) ⟨c++new,r5,by rw[as₀,hc];rfl,(vS _ _).symm⟩ h5;rw[hl]at h6;exact⟨_,hh,A',h6,r6⟩
   have rd:∀{g:T FV->Bool},o+l*sz<=old.length->(u.rd o (Nat.mul l sz) [] fun l=>T.insL l 0 .e g)=true->∃t c,Rep t c/\c.length=l*sz/\H.cells b o (l*sz)=some (toL c)/\g t=true:=by
    intro g hle h;obtain⟨c,h5,h6,_,h7⟩:=T.rd_rep r1 o _ [] h;rw[List.append_nil]at h6;obtain⟨t,h8,r8⟩:=T.insL_rep c Eu rfl h6;exact⟨t,c,by simpa using r8,h5,by subst h7;simp only[Heap.cells,hg,kY,if_pos hle];simp[fU],h8⟩
   refine dY h (fun hz h=>?_) (fun hz h=>?_)
   ·have hz:o=0:=Nat.eq_of_beq_eq_true hz
    subst hz;refine dY h (fun hm h=>?_) (fun hm h=>?_)
    ·have hm:l*sz=old.length:=Nat.eq_of_beq_eq_true hm
     refine fin r1 hm.symm ?_ h;simp only[Heap.cells,hg,kY,Nat.zero_add,if_pos (Nat.le_of_eq hm),List.drop_zero];rw[List.take_of_length_le (by rw[kY];omega)]
    ·obtain⟨h5,h6⟩:=dt h
     obtain⟨t,c,q1,q2,q3,q4⟩:=rd (by rw[Nat.zero_add];exact Nat.le_of_ble_eq_true h5) h6;exact fin q1 q2 q3 q4
   ·obtain⟨h5,h6⟩:=dt h
    obtain⟨t,c,q1,q2,q3,q4⟩:=rd (Nat.le_of_ble_eq_true h5) h6;exact fin q1 q2 q3 q4
  have hn:¬ bh<l+n:=by unfold bh;exact Nat.not_lt.2 h1
  cases sp with
  | none=>
   obtain⟨old',h4,A',h5,r5⟩:=tail rh rfl h3;exact⟨_,A',_,by simp only[aU,if_neg (show ¬ l+n<=c from hb),if_neg hn,h4];rfl,r5,h5⟩
  | some z=>
   obtain⟨hz,h4⟩:=dt h3;obtain⟨hlo,h5⟩:=dt h4;obtain⟨A2,h6,r6⟩:=Ac rh (x:=.no) (y:=none) trivial h5;obtain⟨old',h7,A',h8,r8⟩:=tail r6 (by simp) h6;exact⟨_,A',_,by simp only[aU,if_neg (show ¬ l+n<=c from hb),if_neg hn,if_pos (zzi (Nat.eq_of_beq_eq_true hz) (Nat.le_of_ble_eq_true hlo)),h7];rfl,r8,h8⟩
theorem uD{lo sz n:Nat}{s:FV}{new:List FV}{A:FH}{H:Heap}(rh:RH A H){k:FV->FH->Bool}(h:wL lo sz s new n A k=true):xd (aU lo sz (toV s) (toL new) n H) k:=by
 rcases s with _|_|_|⟨b,o,l,c,sp⟩|v
 ·cases h
 ·cases h
 ·cases h
 ·exact C2 rh h
 ·cases v<;>try cases h
  case slice a l c=>
   cases a
   ·exact C1 rh h
   ·cases h
def Fu(cf:kg)(ca:CallR):Prop:=∀(lo f:Nat) (args:List FV) (A:FH) (H:Heap) (k:FV->FH->Bool),RH A H->cf lo f args A k=true->∃x A' H',ca lo f (toL args) H=some (.inl (toV x),H')/\RH A' H'/\k x A'=true
theorem wM{cf:kg}{ca:CallR}(hc:Fu cf ca){lo:Nat}{vs:List FV}{A:FH}{H:Heap}(rh:RH A H){k:FV->FH->Bool}{raise:Bool}(h:fCall raise cf lo vs A k=true) :
  ∃f first cap r,toL vs=.func (.func f) first cap::r/\xd (ca.ret (if raise then H.length else lo) f (first.toList++r++cap.toList) H) k:=by
 rcases vs with _|⟨x,r⟩
 ·cases h
 have e:fCall.bB' raise A.size lo=if raise then H.length else lo:=by rw[rh.size];cases raise<;>rfl
 obtain⟨v,rfl,h1⟩:=(v8 h).resolve_right (by simp);cases v<;>try cases h1
 case func fn first cap=>
  cases fn<;>try cases h1
  case func f=>
   obtain⟨a,ha,h2⟩:=kJ (show ofL first.toList (fun a=>ofL cap.toList fun c=>cf (fCall.bB' raise A.size lo) f (a++r++c) A k)=true from h1);obtain⟨c,hc',h3⟩:=kJ h2;rw[e]at h3;obtain⟨y,A',H',h4,r4,h5⟩:=hc _ _ _ _ _ _ rh h3;refine⟨f,first,cap,toL r,rfl,y,A',H',?_,r4,h5⟩;simp only[vS,ha,hc']at h4;simp only[CallR.ret,h4]
theorem D2{cf:kg}{ca:CallR}(hc:Fu cf ca){o:HOp}{lo:Nat}{vs:List FV}{A:FH}{H:Heap}(rh:RH A H){k:FV->FH->Bool}(h:Ju o cf lo vs A k=true):xd (hsem ca.ret lo o (toL vs) H) k:=by
 cases o
 case call raise=>
  obtain⟨f,first,cap,r,h1,h2⟩:=wM hc rh (show fCall raise cf lo vs A k=true from h);rw[h1];exact h2
 case callC=>
  obtain⟨f,first,cap,r,h1,h2⟩:=wM hc rh (show fCall false cf lo vs A k=true from h);rw[h1];exact h2
 case alloc zero=>
  rcases vs with _|⟨x,r⟩
  ·obtain⟨l,h1,h2⟩:=kJ (show ofL zero (fun l=>A.pushL l fun b H=>k (.p b 0) H)=true from h)
   obtain⟨A',h3,r3⟩:=ji rh h2;rw[h1]at r3;exact⟨_,A',_,rfl,r3,h3⟩
  ·cases h
 case box=>
  obtain⟨x,rfl,h1⟩:=jG h;obtain⟨l,h2,h3⟩:=sy h1;obtain⟨A',h4,r4⟩:=ji rh h3;rw[h2]at r4;exact⟨_,A',_,rfl,r4,h4⟩
 case mkSl zero=>
  obtain⟨x,y,rfl,h1⟩:=(rD h).resolve_right (by simp);obtain⟨kd,l,rfl,h2⟩:=(sw h1).resolve_right (by simp);obtain⟨kd',c,rfl,h3⟩:=(sw h2).resolve_right (by simp);obtain⟨hl,h4⟩:=dt h3;obtain⟨hm,h5⟩:=dt h4;have hl:l<=c:=Nat.le_of_ble_eq_true hl;have hm:c<=bh:=Nat.le_of_ble_eq_true hm;have key:∀{A':FH},RH A' (H++[some (bA zero c)])->k (.s H.length 0 l c none) A'=true->xd (hsem ca.ret lo (.mkSl zero) (toL [.i kd l,.i kd' c]) H) k:=by
   intro A' r h;refine⟨_,A',_,?_,r,h⟩;simp only[xU,toV,hsem];rw[if_pos ⟨Int.natCast_nonneg _,Int.ofNat_le.2 hl,Int.ofNat_le.2 hm⟩];rfl
  have gen:ofL (bA zero c) (fun z=>A.pushL z fun b H=>k (.s b 0 l c none) H)=true->xd (hsem ca.ret lo (.mkSl zero) (toL [.i kd l,.i kd' c]) H) k:=by
   intro h;obtain⟨z,h6,h7⟩:=kJ h;obtain⟨A',h8,r8⟩:=ji rh h7;rw[h6]at r8;exact key r8 h8
  rcases zero with _|⟨z,_|⟨z',zs⟩⟩
  ·exact gen h5
  ·obtain⟨x,hx,h6⟩:=ui (show ofV z (fun z=>T.rep z 40 c fun t=>A.push (.mk c t) fun b H=>k (.s b 0 l c none) H)=true from h5)
   obtain⟨t,h7,r7⟩:=T.rep_rep x 40 c h6;obtain⟨A',h8,r8⟩:=uv rh (x:=.mk c t) (y:=some (bA [z] c)) ⟨_,r7,by simp,by simp[bA,fU,<-hx]⟩ h7;exact key r8 h8
  ·exact gen h5
 case bSl zero len idx=>
  obtain⟨l,h1,h2⟩:=pR (show oB (buildL (bA zero len) (idx.map fun i=>(i*zero.length,zero.length)) (toL vs)) (fun l=>ofL l fun l=>A.pushL l fun b H=>k (.s b 0 len len none) H)=true from h);obtain⟨m,h3,h4⟩:=kJ h2;obtain⟨A',h5,r5⟩:=ji rh h4;rw[h3]at r5;exact⟨_,A',_,by simp only[hsem,h1];rfl,r5,h5⟩
 case st n=>
  obtain⟨x,y,rfl,h1⟩:=(rD h).resolve_right (by simp);obtain⟨b,o,rfl,h2⟩:=(v9 h1).resolve_right (by simp);obtain⟨l,h3,h4⟩:=sy h2;obtain⟨hn,h5⟩:=dt h4;obtain⟨h6,h7⟩:=pd h5;obtain⟨A',H',h8,h9,r9⟩:=Fo rh h7;have hn:(toV y).cells.size=n:=by rw[<-Nat.eq_of_beq_eq_true hn,<-kY,h3];simp
  have ho:=uo h6;rw[h3]at h9 ho;refine⟨CO,A',H',?_,r9,h8⟩;simp only[xU,toV,hsem];rw[if_pos ⟨hn,ho⟩];exact congrArg (Option.map fun H'=>(undef,H')) h9
 case app sz z=>
  obtain⟨s,x,rfl,h1⟩:=(rD h).resolve_right (by simp);rcases x with _|_|_|⟨b,o,n,c,sp⟩|v
  ·cases h1
  ·cases h1
  ·cases h1
  ·obtain⟨new,h2,_,h3⟩:=A6 rh (show A.rd b o (Nat.mul n sz) (fun new=>Ar Bj new (wL lo sz s new n A k))=true from h1)
   obtain⟨h4,h5⟩:=pd h2;obtain⟨y,A',H',h6,h7⟩:=uD rh h5;have h3:H.cells b o (n*sz)=some (toL new):=h3;refine⟨y,A',H',?_,h7⟩;simp only[xU,toV,hsem,h3,ao₀];rw[if_pos (uo h4)];exact h6
  ·cases v<;>try cases h1
   case slice a n c=>
    cases a
    ·obtain⟨h2,h3⟩:=dt h1
     obtain⟨y,A',H',h6,h7⟩:=uD rh h3;refine⟨y,A',H',?_,h7⟩;simp only[xU,toV,hsem];rw[if_pos (Nat.eq_of_beq_eq_true h2)];exact h6
    ·cases h1
 case appS z=>
  obtain⟨s,x,rfl,h1⟩:=(rD h).resolve_right (by simp);obtain⟨v,rfl,h2⟩:=(v8 h1).resolve_right (by simp);cases v<;>try cases h2
  case string b=>
   obtain⟨l,h3,h4⟩:=kJ h2;rw[eU]at h4;obtain⟨y,A',H',h6,h7⟩:=uD rh h4;rw[h3]at h6;exact⟨y,A',H',h6,h7⟩
 case cpy sz=>
  obtain⟨d,a,rfl,h1⟩:=(rD h).resolve_right (by simp);rcases sx h1 with ⟨b,o,n,c,sp,rfl,h2⟩|h2
  ·rcases sx h2 with ⟨b',o',m,c',sp',rfl,h3⟩|h3
   ·rw[eU]at h3
    obtain⟨new,h4,_,h5⟩:=A6 rh h3;obtain⟨h6,h7⟩:=pd h4;obtain⟨A',H',h8,h9,r9⟩:=Fo rh h7;have h5:H.cells b' o' (min m n*sz)=some (toL new):=h5;refine⟨_,A',H',?_,r9,h8⟩;simp only[xU,toV,hsem,h5,ao₀];rw[if_pos (uo h6),h9];rfl
   ·obtain⟨v,rfl,h4⟩:=(v8 h3).resolve_right (by simp)
    cases v<;>try cases h4
    case slice a m c'=>
     cases a
     ·obtain⟨h5,h6⟩:=dt h4
      refine⟨_,A,H,?_,rh,h6⟩;simp only[xU,toV,hsem];rw[if_pos (Nat.eq_of_beq_eq_true h5)];rfl
     ·cases h4
  ·obtain⟨v,rfl,h3⟩:=(v8 h2).resolve_right (by simp)
   cases v<;>try cases h3
   case slice a' n c=>
    cases a'
    ·obtain⟨h4,h5⟩:=dt h3
     obtain⟨h6,h7⟩:=dt h5;have ha:∃p l c,toV a=.slice p l c:=by
      rcases a with _|_|_|⟨b,o,l,c,sp⟩|v
      ·cases h6
      ·cases h6
      ·cases h6
      ·exact⟨_,_,_,rfl⟩
      ·cases v<;>first|exact⟨_,_,_,rfl⟩|cases h6
     obtain⟨p,l,c',ha⟩:=ha;refine⟨_,A,H,?_,rh,h7⟩;simp only[xU,ha];simp only[toV,hsem];rw[if_pos (Nat.eq_of_beq_eq_true h4)];rfl
    ·cases h3
 case s2b=>
  obtain⟨x,rfl,h1⟩:=jG h;obtain⟨v,rfl,h2⟩:=(v8 h1).resolve_right (by simp);cases v<;>try cases h2
  case string b=>
   obtain⟨l,h3,h4⟩:=kJ h2;rw[eU]at h4;obtain⟨A',h5,r5⟩:=ji rh h4;rw[h3]at r5;exact⟨_,A',_,rfl,r5,h5⟩
 case frz=>
  obtain⟨x,rfl,h1⟩:=jG h;obtain⟨b,o,n,c,sp,rfl,h2⟩:=(sx h1).resolve_right (by simp);cases sp with
  | none=>
   obtain⟨u,l,h3,_,hg,_⟩:=qK rh (show A.blk b (fun _ _=>bB (Nat.ble lo b) (k (.s b o n c none) A) false)=true from h2);obtain⟨h4,h5⟩:=dt h3;refine⟨_,A,H,?_,rh,h5⟩;simp only[kX,toV,hsem,kG,hg];rw[if_pos (Nat.le_of_ble_eq_true h4)]
  | some z=>cases h2
 case fail=>cases h
 case pan=>cases h
def XO1(fx:FS->FH->(Ex->FS->FH->Bool)->Bool)(ex:List Value->Heap->Out):Prop:=∀(F:FS) (S:List Value) (A:FH) (H:Heap) (k:Ex->FS->FH->Bool),RS F S->RH A H->fx F A k=true ->
 ∃x F' S' A' H',ex S H=some (x,S',H')/\RS F' S'/\RH A' H'/\k x F' A'=true
def XOK(fx:FX)(ex:Nat->List Value->Heap->Out):Prop:=∀lo,XO1 (fx lo) (ex lo)
theorem gR{ex:Nat->List Value->Heap->Out}:XOK noX ex:=fun _ _ _ _ _ _ _ _ h=>by cases h
theorem qO{x:Ex}{n r:Bool}{e:Nat->Bool}(h:cEx x n e r=true):(x=.normal/\n=true)\/(∃i,x=.exit i/\e i=true)\/(x=.ret/\r=true):=by
 cases x
 ·exact .inl ⟨rfl,h⟩
 ·exact .inr (.inl ⟨_,rfl,h⟩)
 ·exact .inr (.inr ⟨rfl,h⟩)
theorem Du{fx:FX}{ex:Nat->List Value->Heap->Out}(hx:XOK fx ex):∀n,XOK (itF fx n) (fun lo=>iter (ex lo) n)
 | 0=>fun _ _ _ _ _ _ _ _ h=>by cases h
 | n+1=>fun lo F S A H k rs rh h=>by
  obtain⟨x,F',S',A',H',h1,r1,r2,h2⟩:=hx lo F S A H _ rs rh (show fx lo F A (fun x S H=>cEx x (itF fx n lo S H k) (fun i=>k (.exit i) S H) (k .ret S H))=true from h);rcases qO h2 with ⟨rfl,h3⟩|⟨i,rfl,h3⟩|⟨rfl,h3⟩
  ·obtain⟨x2,F2,S2,A2,H2,h4,h5⟩:=Du hx n _ _ _ _ _ _ r1 r2 h3
   exact⟨x2,F2,S2,A2,H2,by simp[iter,h1,h4],h5⟩
  ·exact⟨_,F',S',A',H',by simp[iter,h1],r1,r2,h3⟩
  ·exact⟨_,F',S',A',H',by simp[iter,h1],r1,r2,h3⟩
theorem zt{f:Nat->FX}{lo:Nat}{g:List Value->Heap->Out}(hf:∀t:Nat,XO1 (f t lo) (fun S H=>g (.int .i64 (t:Int)::S) H)) :
  ∀n {x:Ex} {F:FS} {S:List Value} {A:FH} {H:Heap} {k:Ex->FS->FH->Bool},RS F S->RH A H->Gj f lo n x F A k=true ->
   ∃x' F' S' A' H',hop g n (some (x,S,H))=some (x',S',H')/\RS F' S'/\RH A' H'/\k x' F' A'=true
 | 0,x,F,S,A,H,k,rs,rh,h=>by cases h
 | n+1,x,F,S,A,H,k,rs,rh,h=>by
  rcases qO (show cEx x (k .normal F A) (fun j=>bB (Nat.ble 1000000 j) (f (Nat.sub j 1000000) lo F A fun x S H=>Gj f lo n x S H k) (k (.exit j) F A)) (k .ret F A)=true from h)with ⟨rfl,h3⟩|⟨j,rfl,h3⟩|⟨rfl,h3⟩
  ·exact⟨_,F,S,A,H,rfl,rs,rh,h3⟩
  ·refine dY h3 (fun hb h=>?_) (fun hb h=>?_)
   ·have hb:aT<=j:=Nat.le_of_ble_eq_true hb
    obtain⟨x1,F1,S1,A1,H1,h4,r1,r2,h5⟩:=hf _ _ _ _ _ _ rs rh h;obtain⟨x2,F2,S2,A2,H2,h6,h7⟩:=zt hf n r1 r2 h5;refine⟨x2,F2,S2,A2,H2,?_,h7⟩;simp only[hop,if_pos hb];have h4:g (.int .i64 ((j-aT:Nat):Int)::S) H=some (x1,S1,H1):=h4;rw[h4];exact h6
   ·rw[gz]at hb
    simp only[ai₀]at hb;exact⟨_,F,S,A,H,by simp only[hop];rw[if_neg (show ¬ aT<=j from hb)],rs,rh,h⟩
  ·exact⟨_,F,S,A,H,rfl,rs,rh,h3⟩
theorem D1{cf:kg}{ca:CallR}(hc:Fu cf ca)(n:Nat)(s:Stm):XOK (j7 cf n s).1 (fun lo=>exec ca lo n s)/\∀t:Nat,XOK ((j7 cf n s).2 t) (fun lo S H=>exec ca lo n s (.int .i64 (t:Int)::S) H):=by
 induction s with
 | skip=>exact⟨fun _ _ _ _ _ _ rs rh h=>⟨_,_,_,_,_,rfl,rs,rh,h⟩,fun _=>gR⟩
 | sets l chk=>
  refine⟨fun lo F S A H k rs rh h=>?_,fun _=>gR⟩;obtain⟨vs,G,h1,r1,h2⟩:=qp rs rh l rs h;obtain⟨h3,h4⟩:=uR rs rh chk h2;exact⟨_,G,_,A,H,by simp only[exec,h1,h3,if_true],r1,rh,h4⟩
 | hv l chk pc dst o a=>
  refine⟨fun lo F S A H k rs rh h=>?_,fun _=>gR⟩;obtain⟨vs,G,h1,r1,h2⟩:=qp rs rh l rs h;obtain⟨h3,h4⟩:=uR rs rh chk h2;rcases yS rs rh pc h4 with ⟨h5,h6⟩|⟨h5,h6⟩
  ·obtain⟨xs,h7,h8⟩:=qj a rs rh h6
   rw[List.append_nil]at h8;obtain⟨x,A',H',h9,r9,h10⟩:=D2 (cf:=cf) (ca:=ca) hc rh h8;cases dst with
   | none=>exact⟨_,G,_,A',H',by simp only[exec,h1,h3,if_true,h5,h7,h9],r1,r9,h10⟩
   | some d=>
    obtain⟨F',h11,r11⟩:=r1.set h10;exact⟨_,F',_,A',H',by simp only[exec,h1,h3,if_true,h5,h7,h9],r11,r9,h11⟩
  ·cases dst with
   | none=>exact⟨_,G,_,A,H,by simp only[exec,h1,h3,if_true,h5],r1,rh,h6⟩
   | some d=>
    obtain⟨F',h11,r11⟩:=r1.set h6;exact⟨_,F',_,A,H,by simp only[exec,h1,h3,if_true,h5];rfl,r11,rh,h11⟩
 | dist a b=>
  refine⟨fun lo F S A H k rs rh h=>?_,fun _=>gR⟩;obtain⟨x,h1,h2⟩:=pr rs rh h;obtain⟨y,h3,h4⟩:=pr rs rh h2;have hb:∀z:FV,LI z=aV (toV z):=by intro z;cases z<;>rfl
  rw[hb,hb]at h4;have:(aV (toV x)=none\/aV (toV x)≠aV (toV y))/\k .normal F A=true:=by
   rcases hx:aV (toV x)with _|i
   ·rw[hx]at h4;exact⟨.inl rfl,h4⟩
   ·rcases hy:aV (toV y)with _|j
    ·rw[hx,hy]at h4;exact⟨.inr (by simp),h4⟩
    ·rw[hx,hy]at h4
     refine dY h4 (fun _ h=>by cases h) (fun hb h=>⟨.inr ?_,h⟩);simp only[ne_eq,ab₀];exact Nat.ne_of_beq_eq_false hb
  exact⟨_,F,S,A,H,by simp only[exec,h1,h3,if_pos this.1],rs,rh,this.2⟩
 | seq a b iha ihb=>
  refine⟨fun lo F S A H k rs rh h=>?_,fun _=>gR⟩;obtain⟨x,F1,S1,A1,H1,h1,r1,r2,h2⟩:=iha.1 _ _ _ _ _ _ rs rh (show(j7 cf n a).1 lo F A (fun x S H=>cEx x ((j7 cf n b).1 lo S H k) (fun i=>k (.exit i) S H) (k .ret S H))=true from h);rcases qO h2 with ⟨rfl,h3⟩|⟨i,rfl,h3⟩|⟨rfl,h3⟩
  ·obtain⟨x2,F2,S2,A2,H2,h4,h5⟩:=ihb.1 _ _ _ _ _ _ r1 r2 h3
   exact⟨x2,F2,S2,A2,H2,by simp only[exec,h1,h4],h5⟩
  ·exact⟨_,F1,S1,A1,H1,by simp only[exec,h1],r1,r2,h3⟩
  ·exact⟨_,F1,S1,A1,H1,by simp only[exec,h1],r1,r2,h3⟩
 | cond c a b iha ihb=>
  refine⟨fun lo F S A H k rs rh h=>?_,fun _=>gR⟩;obtain⟨xs,h1,h2⟩:=qj c rs rh (show fev c F A [] (fun l=>isB l ((j7 cf n a).1 lo F A k) ((j7 cf n b).1 lo F A k))=true from h);rw[List.append_nil]at h2;rcases yZ h2 with ⟨rfl,h3⟩|⟨rfl,h3⟩
  ·obtain⟨x2,F2,S2,A2,H2,h4,h5⟩:=iha.1 _ _ _ _ _ _ rs rh h3
   exact⟨x2,F2,S2,A2,H2,by simp only[exec,ev1,h1,kX,toV,h4],h5⟩
  ·obtain⟨x2,F2,S2,A2,H2,h4,h5⟩:=ihb.1 _ _ _ _ _ _ rs rh h3
   exact⟨x2,F2,S2,A2,H2,by simp only[exec,ev1,h1,kX,toV,h4],h5⟩
 | block i b ih=>
  refine⟨fun lo F S A H k rs rh h=>?_,fun _=>gR⟩;obtain⟨x,F1,S1,A1,H1,h1,r1,r2,h2⟩:=ih.1 _ _ _ _ _ _ rs rh (show(j7 cf n b).1 lo F A (fun x S H=>cEx x (k .normal S H) (fun j=>bB (Nat.beq j i) (k .normal S H) (k (.exit j) S H)) (k .ret S H))=true from h);rcases qO h2 with ⟨rfl,h3⟩|⟨j,rfl,h3⟩|⟨rfl,h3⟩
  ·exact⟨_,F1,S1,A1,H1,by simp only[exec,h1],r1,r2,h3⟩
  ·refine dY h3 (fun hb h=>?_) (fun hb h=>?_)
   ·exact⟨_,F1,S1,A1,H1,by simp only[exec,h1,if_pos (Nat.eq_of_beq_eq_true hb)],r1,r2,h⟩
   ·exact⟨_,F1,S1,A1,H1,by simp only[exec,h1,if_neg (Nat.ne_of_beq_eq_false hb)],r1,r2,h⟩
  ·exact⟨_,F1,S1,A1,H1,by simp only[exec,h1],r1,r2,h3⟩
 | loop b ih=>
  refine⟨fun lo F S A H k rs rh h=>?_,fun _=>gR⟩;obtain⟨x2,F2,S2,A2,H2,h4,h5⟩:=Du ih.1 n _ _ _ _ _ _ rs rh h;exact⟨x2,F2,S2,A2,H2,by simp only[exec];exact h4,h5⟩
 | exit i=>exact⟨fun _ _ _ _ _ _ rs rh h=>⟨_,_,_,_,_,rfl,rs,rh,h⟩,fun _=>gR⟩
 | ret=>exact⟨fun _ _ _ _ _ _ rs rh h=>⟨_,_,_,_,_,rfl,rs,rh,h⟩,fun _=>gR⟩
 | scope b alts ihb iha=>
  refine⟨fun lo F S A H k rs rh h=>?_,fun _=>gR⟩;obtain⟨x,F1,S1,A1,H1,h1,r1,r2,h2⟩:=ihb.1 _ _ _ _ _ _ rs rh (show(j7 cf n b).1 lo F A (fun x S H=>Gj (j7 cf n alts).2 lo n x S H k)=true from h);obtain⟨x2,F2,S2,A2,H2,h4,h5⟩:=zt (f:=(j7 cf n alts).2) (lo:=lo) (g:=exec ca lo n alts) (fun t=>iha.2 t lo) n r1 r2 h2;exact⟨x2,F2,S2,A2,H2,by simp only[exec,h1];exact h4,h5⟩
 | alt l s r ihs ihr=>
  refine⟨gR,fun t {lo F S A H k} rs rh h=>?_⟩;have h:xAlt.bX (j7 cf n s).1 ((j7 cf n r).2 t) (Nat.beq t l) lo F A k=true:=h;cases hb:Nat.beq t l
  ·rw[hb]at h
   obtain⟨x2,F2,S2,A2,H2,h4,h5⟩:=ihr.2 t _ _ _ _ _ _ rs rh h;exact⟨x2,F2,S2,A2,H2,by simp only[exec];rw[if_neg (fun e=>Nat.ne_of_beq_eq_false hb (by exact_mod_cast e))];exact h4,h5⟩
  ·rw[hb]at h
   obtain⟨x2,F2,S2,A2,H2,h4,h5⟩:=ihs.1 _ _ _ _ _ _ rs rh h;exact⟨x2,F2,S2,A2,H2,by simp only[exec];rw[if_pos (by rw[Nat.eq_of_beq_eq_true hb])];exact h4,h5⟩
theorem zn{F:FS}{S:List Value}{A:FH}{H:Heap}(rs:RS F S)(rh:RH A H):∀(l:List E) {k:List FV->Bool},D7 l F A k=true->∃xs,evList S H l=some (toL xs)/\k xs=true
 | [],k,h=>⟨[],rfl,h⟩
 | e::l,k,h=>by
  obtain⟨x,h1,h2⟩:=pr rs rh (show yP e F A (fun v=>D7 l F A fun l=>k (v::l))=true from h);obtain⟨xs,h3,h4⟩:=zn rs rh l h2;exact⟨x::xs,by simp only[evList,h1,h3];rfl,h4⟩
theorem IZ{l:List FV}{k:FV->Bool}(h:IY l k=true):∃x,aP (toL l)=toV x/\k x=true:=by
 rcases l with _|⟨x,_|⟨y,l⟩⟩
 ·exact⟨_,rfl,h⟩
 ·exact⟨_,rfl,h⟩
 ·exact⟨_,rfl,h⟩
def qG(cp:FuncId->Option CF)(sc:SC)(N:Nat):Prop:=∀f args k d,sc f args k d=true->d=true\/∃v g,k v g=true /\
 ∀m,N<=m->∀(lo:Nat) (H:Heap),lo<=H.length->∃G:Heap,G.length=g/\run cp m lo f (toL args) H=some (.inl (toV v),H++G)
theorem AU(cp:FuncId->Option CF):qG cp M4 0:=fun _ _ _ _ h=>.inl h
theorem uV{cp:FuncId->Option CF}{sc:SC}{N:Nat}(hsc:qG cp sc N):∀n,Fu (yU cp sc N n) (run cp (N+n))
 | 0=>fun _ _ _ _ _ _ _ h=>by cases h
 | n+1=>fun lo f args A H k rh h=>by
  rcases hsc _ _ _ _ (show sc f args (fun v g=>A.skip lo g fun H=>k v H) _=true from h)with h|⟨v,g,hk,hr⟩;rotate_left
  ·obtain⟨t,rfl,ht⟩:=rh
   obtain⟨h1,h2⟩:=dt (show bB (Nat.ble lo H.length) (fN (Nat.add H.length g) fun m=>k v (.mk m t)) false=true from hk);rw[eU]at h2;obtain⟨G,hG,hr⟩:=hr (N+(n+1)) byO lo H (Nat.le_of_ble_eq_true h1);refine⟨v,_,H++G,hr,⟨t,by rw[as₀,hG];rfl,fun b=>?_⟩,h2⟩;have:=ht b;by_cases hb:b<H.length
   ·rw[ax₀ hb];exact this
   ·rw[av₀ byO]at this
    rcases hg:t.get b with _|x
    ·exact trivial
    ·rw[hg]at this;cases x<;>exact this.elim
  show ∃x A' H',run cp ((N+n)+1) lo f (toL args) H=_/\_;obtain⟨cf,h1,h2⟩:=pR (show oB (cp f) _=true from h);obtain⟨hn,h3⟩:=dt h2;have hn:args.length=cf.np:=Nat.eq_of_beq_eq_true hn;obtain⟨t,h4,r4⟩:=T.rep_rep CO 12 cf.ns h3;obtain⟨t2,h5,r5⟩:=T.setL_rep args r4 h4;have rs:RS t2 (toL args++List.replicate (cf.ns-cf.np) undef):=⟨_,r5,by
   have e:toV CO=undef:=rfl;simp[ux,fU,hn,e]⟩
  cases hk:cf.kind with
  | plain=>
   rw[hk]at h5;obtain⟨x,F1,S1,A1,H1,h6,r6,r7,h7⟩:=(D1 (uV hsc n) (N+n) cf.body).1 _ _ _ _ _ _ rs rh h5;have fin:(D7 cf.res F1 A1 fun l=>IY l fun v=>k v A1)=true->∃x,(match evList S1 H1 cf.res with
     | some vs=>some (Sum.inl (β:=Value) (aP vs),H1)
     | none=>none)=some (.inl (toV x),H1)/\k x A1=true:=by
    intro h;obtain⟨xs,h8,h9⟩:=zn r6 r7 cf.res h;obtain⟨y,h10,h11⟩:=IZ h9;exact⟨y,by rw[h8];simp only[h10],h11⟩
   rcases qO h7 with ⟨rfl,h8⟩|⟨i,rfl,h8⟩|⟨rfl,h8⟩
   ·obtain⟨y,h9,h10⟩:=fin h8
    exact⟨y,A1,H1,by simp only[run,h1,kY,hn,if_true,hk,h6];exact h9,r7,h10⟩
   ·cases h8
   ·obtain⟨y,h9,h10⟩:=fin h8
    exact⟨y,A1,H1,by simp only[run,h1,kY,hn,if_true,hk,h6];exact h9,r7,h10⟩
  | dfr mid j rst=>rw[hk]at h5;cases h5
  | rcv j=>rw[hk]at h5;cases h5
theorem Ez:RH (.mk 0 .e) []:=⟨.e,rfl,fun b=>by simp[T.get_e,RO]⟩
def eq1(a b:Value):Bool:=
 match a,b with
 | .bool a,.bool b=>a==b
 | .int k a,.int k' b=>Nat.beq (idI k) (idI k')&&decide (a=b)
 | .slice none l c,.slice none l' c'=>Nat.beq l l'&&Nat.beq c c'
 | .slice (some ⟨b,o,none⟩) l c,.slice (some ⟨b',o',none⟩) l' c'=>Nat.beq b b'&&Nat.beq o o'&&Nat.beq l l'&&Nat.beq c c'
 | .slice (some ⟨b,o,some z⟩) l c,.slice (some ⟨b',o',some z'⟩) l' c'=>Nat.beq b b'&&Nat.beq o o'&&Nat.beq l l'&&Nat.beq c c'&&Nat.beq z z'
 | _,_=>false
theorem DW{a b:Value}(h:eq1 a b=true):a=b:=by
 unfold eq1 at h;split at h
 ·rw[eq_of_beq h]
 ·simp only[ac₀,af₀]at h;rw[id_eq h.1,h.2]
 ·simp only[ac₀]at h;rw[Nat.eq_of_beq_eq_true h.1,Nat.eq_of_beq_eq_true h.2]
 ·simp only[ac₀]at h;rw[Nat.eq_of_beq_eq_true h.1.1.1,Nat.eq_of_beq_eq_true h.1.1.2,Nat.eq_of_beq_eq_true h.1.2,Nat.eq_of_beq_eq_true h.2]
 ·simp only[ac₀]at h;rw[Nat.eq_of_beq_eq_true h.1.1.1.1,Nat.eq_of_beq_eq_true h.1.1.1.2,Nat.eq_of_beq_eq_true h.1.1.2,Nat.eq_of_beq_eq_true h.1.2,Nat.eq_of_beq_eq_true h.2]
 ·cases h
def eqL(eq:Value->Value->Bool):List Value->List Value->Bool
 | [],[]=>true
 | a::l,b::m=>eq a b&&eqL eq l m
 | _,_=>false
theorem yK{eq:Value->Value->Bool}(he:∀{a b},eq a b=true->a=b):∀{l m:List Value},eqL eq l m=true->l=m
 | [],[],_=>rfl
 | a::l,b::m,h=>by
  simp only[eqL,ac₀]at h;rw[he h.1,yK he h.2]
 | [],_::_,h=>by cases h
 | _::_,[],h=>by cases h
def eq2(a b:Value):Bool:=match a,b with
 | .agg a,.agg b=>eqL eq1 a.toList b.toList
 | a,b=>eq1 a b
theorem DX{a b:Value}(h:eq2 a b=true):a=b:=by
 unfold eq2 at h;split at h
 ·rw[Array.toList_inj.1 (yK DW h)]
 ·exact DW h
def eq3(a b:Value):Bool:=match a,b with
 | .tuple a,.tuple b=>eqL eq2 a.toList b.toList
 | a,b=>eq2 a b
theorem qd{a b:Value}(h:eq3 a b=true):a=b:=by
 unfold eq3 at h;split at h
 ·rw[Array.toList_inj.1 (yK DX h)]
 ·exact DX h
def ES(k:Mv)(v:Value):Value:=match v with
 | .slice (some ⟨b,o,s⟩) l c=>.slice (some ⟨k.f b,o,s⟩) l c
 | .pointer (some ⟨b,o,s⟩)=>.pointer (some ⟨k.f b,o,s⟩)
 | v=>v
def ET(k:Mv)(v:Value):Value:=match v with
 | .agg a=>.agg (a.toList.map (ES k)).toArray
 | v=>ES k v
def Hk(k:Mv)(v:Value):Value:=match v with
 | .tuple a=>.tuple (a.toList.map (ET k)).toArray
 | v=>ET k v
theorem ub{k:Mv}{g:Value->Value}{eq:Value->Value->Bool}(hg:∀{v v':Value},eq v v=true->Sh k v v'->v'=g v):∀{l l':List Value},eqL eq l l=true->LSh k l l'->l'=l.map g
 | [],l',_,s=>by rw[s.of_nil];rfl
 | v::l,l',h,s=>by
  simp only[eqL,ac₀]at h;obtain⟨y,r,rfl,h1,h2⟩:=s.of_cons;rw[hg h.1 h1,ub hg h.2 h2];rfl
theorem FO{k:Mv}{v v':Value}(h:eq1 v v=true)(s:Sh k v v'):v'=ES k v:=by
 cases s<;>first|rfl|(simp[eq1]at h)
theorem FQ{k:Mv}{v v':Value}(h:eq2 v v=true)(s:Sh k v v'):v'=ET k v:=by
 cases s
 case agg a a' ha ra=>
  have:=ub (k:=k) (eq:=eq1) (g:=ES k) FO (l:=a.toList) (l':=a'.toList) h (LSh.arr.2 ⟨ha,ra⟩);show Value.agg a'=.agg (a.toList.map (ES k)).toArray;rw[<-this]
 case tuple=>simp[eq2,eq1]at h
 all_goals exact FO (k:=k) (by simpa only[eq2]using h) (by constructor<;>assumption)
theorem FR{k:Mv}{v v':Value}(h:eq3 v v=true)(s:Sh k v v'):v'=Hk k v:=by
 cases s
 case tuple a a' ha ra=>
  have:=ub (k:=k) (eq:=eq2) (g:=ET k) FQ (l:=a.toList) (l':=a'.toList) h (LSh.arr.2 ⟨ha,ra⟩);show Value.tuple a'=.tuple (a.toList.map (ET k)).toArray;rw[<-this]
 all_goals exact FQ (k:=k) (by simpa only[eq3]using h) (by constructor<;>assumption)
def It(v0:Value)(v:FV)(_:FH):Bool:=eq3 (toV v) v0
theorem yN{k:Mv}{H H' H0:Heap}(hn:k.n=H.length)(h:HSh k H0 H')(hp:∀i,i<H.length->H'[i]?=H[i]?):Ext H H':=⟨by have:=h.len;omega,fun i hi=>by unfold Heap.get;rw[hp i hi]⟩
theorem DZ{cp:FuncId->Option CF}{sc:SC}{N:Nat}(hp:∀f cf,cp f=some cf->aK cf=true)(hsc:qG cp sc N){n f:Nat}{args:List FV}{v0:Value}(h:yU cp sc N n 0 f args (.mk 0 .e) (It v0)=true)(ha:(toL args).all ep=true)(hv:eq3 v0 v0=true)
  {lo:Nat} {H:Heap} (hlo:lo<=H.length):Ev cp lo f (toL args) H (fun v H'=>Ext H H'/\v=Hk (mv0 H.length) v0):=by
 obtain⟨x,A',H1,h1,r1,h2⟩:=uV hsc n _ _ _ _ _ _ Ez h;have h2:toV x=v0:=qd h2;rw[h2]at h1;exact nZ hp ha (N+n) h1 hlo fun v' H' hs hh hpre=>⟨yN rfl hh hpre,FR hv hs⟩
theorem CC{cp:FuncId->Option CF}(hp:∀f cf,cp f=some cf->aK cf=true){f:FuncId}{args:List Value}(ha:args.all ep=true){v:Value}(hv:eq3 v v=true)(hm:∀n,Hk (mv0 n) v=v){H0:Heap}{n:Nat}(h:run cp n 0 f args []=some (.inl v,H0)) :
  ∀m,n<=m->∀(lo:Nat) (H:Heap),lo<=H.length->∃G:Heap,G.length=H0.length/\run cp m lo f args H=some (.inl v,H++G):=by
 intro m hmn lo H hlo;have hargs:LSh (mv0 H.length) args args:=by
  refine⟨rfl,fun j x y hx hy=>?_⟩;rw[hx]at hy;cases hy;exact fj (List.all_eq_true.1 ha _ (List.mem_of_getElem? hx))
 obtain⟨r',B',h1,h2,h3⟩:=oz hp n 0 lo f args args [] H _ H0 ⟨Nat.le_refl _,by simp only[mv0];omega⟩ hargs ⟨by simp[mv0],fun i c hc=>by simp[Heap.get]at hc⟩ h;have hl:=h3.sh.newf;rw[KB]at hl;cases r' with
 | inr u=>exact h2.elim
 | inl u=>
  have e:u=v:=(FR hv h2).trans (hm _);subst e;refine⟨B'.drop H.length,by rw[List.length_drop];omega,?_⟩;have hB:B'=H++B'.drop H.length:=by
   refine List.ext_getElem? fun i=>?_;by_cases hi:i<H.length
   ·rw[ax₀ hi];exact h3.pre i hi
   ·rw[aw₀ byO,List.getElem?_drop,show H.length+(i-H.length)=i by omega]
  rw[<-hB];exact oy hmn _ _ _ _ _ h1
noncomputable def zN(v0:Value)(g:Nat)(v:FV)(A:FH):Bool:=bB (eq3 (toV v) v0) (Nat.beq A.size g) false
theorem mf{cp:FuncId->Option CF}{sc:SC}{N:Nat}(hp:∀f cf,cp f=some cf->aK cf=true)(hsc:qG cp sc N){n f:Nat}{args:List FV}{v0:Value}{g:Nat}(h:yU cp sc N n 0 f args (.mk 0 .e) (zN v0 g)=true)(ha:(toL args).all ep=true)(hv:eq3 v0 v0=true)(hm:∀n,Hk (mv0 n) v0=v0) :
  ∀m,N+n<=m->∀(lo:Nat) (H:Heap),lo<=H.length->∃G:Heap,G.length=g/\run cp m lo f (toL args) H=some (.inl v0,H++G):=by
 obtain⟨x,A',H1,h1,r1,h2⟩:=uV hsc n _ _ _ _ _ _ Ez h;obtain⟨h3,h4⟩:=dt h2;have h3:toV x=v0:=qd h3;rw[h3]at h1;have hg:H1.length=g:=by rw[<-r1.size];exact Nat.eq_of_beq_eq_true h4
 have:=CC hp ha hv hm h1;rw[hg]at this;exact this
end Go.Abs
