/- Lemmas. -/
import Derived.Test.YtgiojnobcjnibaaGreatDoorH8
import Derived.LaidSub
set_option linter.all false
namespace Go.Abs
structure Keep (b:Nat)(H H':Heap):Prop where
 len:H.length<=H'.length
 eq:∀i,i<H.length->i≠b->H'.get i=H.get i
theorem Keep.get{b:Nat}{H H':Heap}(h:Keep b H H'){i:Nat}{c:XV}(d:H.get i=some c)(a:i≠b):H'.get i=some c:=(h.eq i (Heap.get_lt d) a).trans d
theorem Keep.ext{b:Nat}{A H H':Heap}(h:Keep b H H')(e:Ext A H)(c:A.length<=b):Ext A H':=⟨Nat.le_trans e.1 h.len,λi a=>(h.eq i (bd₀ a e.1) byO).trans<|e.2 i a⟩
def Own(lo sz:Nat)(H:Heap)(v:Value)(b:Nat)(cells:XV):Prop:=
 lo<=b/\((v=.slice none 0 0/\cells=[])\/∃n,0<n/\n*sz=cells.length/\v=.slice (some ⟨b,0,some sz⟩) n n/\H.get b=some cells)
theorem Own.nil{lo sz:Nat}{H:Heap}{b:Nat}(h:lo<=b):Own lo sz H (.slice none 0 0) b []:=⟨h,.inl ⟨rfl,rfl⟩⟩
theorem Own.mono{lo sz b:Nat}{H H':Heap}{v:Value}{c:XV}(h:Own lo sz H v b c)(e:Ext H H'):Own lo sz H' v b c:=by
 obtain⟨f,h|⟨n,a,b,c,d⟩⟩:=h
 .exact⟨f,.inl h⟩
 .exact⟨f,.inr ⟨n,a,b,c,e.get d⟩⟩
theorem Own.keep{lo sz b g:Nat}{H H':Heap}{v:Value}{c:XV}(h:Own lo sz H v b c)(e:Keep g H H')(f:b≠g):Own lo sz H' v b c:=by
 obtain⟨i,h|⟨n,a,b,c,d⟩⟩:=h
 .exact⟨i,.inl h⟩
 .exact⟨i,.inr ⟨n,a,b,c,e.get d f⟩⟩
theorem Own.len{lo sz b:Nat}{H:Heap}{v:Value}{c:XV}(h:Own lo sz H v b c)(e:0<sz):∃a n,v=.slice a n n/\n*sz=c.length/\n<=c.length:=by
 obtain⟨f,⟨rfl,rfl⟩|⟨n,a,b,rfl,d⟩⟩:=h
 .simp_all
 .exact⟨_,_,rfl,b,by rw[<-b];exact Nat.le_mul_of_pos_right n e⟩
section
variable {cp:Wl}{lo:Nat}
def dD{sz:Nat}{z:XV}{H:Heap}{v:Value}{b:Nat}{a c c':XV}{t o n m:Nat}{sp:Option Nat}{R:Wq}(D:Own lo sz H v b a)(g:lo<=H.length)(j:0<sz)(h:0<n)(p:a.length+n<=4294967296)(s:H.get t=some c')(d:o+n*sz<=c'.length)(q:(c'.drop o).take (n*sz)=c)(l:oneCells c=true)
  (k:∀u H',Own lo sz H' u H.length (a++c)->Keep b H H'->H'.length=H.length+1->R u H'):wpH cp lo (.app sz z) [v,.slice (some ⟨t,o,sp⟩) n m] H R:=by
 have x:c.length=n*sz:=Xu
 obtain⟨w,⟨rfl,rfl⟩|⟨len,A,f,rfl,y⟩⟩:=D
 .have e:=tk (lo:=lo) (H:=H) (sz:=sz) (z:=z) (i:=t) (o:=o) (n:=n) (m:=m) (sp:=sp) ⟨h,byO⟩
  rw[s]at e;simp[d,q,l]at e;simp[wpH];rw[e];refine k _ _ ⟨g,.inr ⟨n,h,Wx,rfl,by grind[aI]⟩⟩ ⟨Wc,λi r _=>fT r⟩ Wc
 .have B:len<=a.length:=by rw[<-f];exact Nat.le_mul_of_pos_right len j
  have e:=wG (lo:=lo) (H:=H) (sz:=sz) (z:=z) (b:=b) (o:=0) (len:=len) (i:=t) (o':=o) (n:=n) (m:=m) (sp:=sp) w ⟨h,byO⟩;rw[s,y]at e;simp[d,q,l,Nat.zero_add,f,Nat.le_refl]at e;simp[wpH];rw[e];refine k _ _ ⟨g,.inr ⟨len+n,byO,Xu,rfl,?_⟩⟩ ⟨Wc,λi r C=>?_⟩ Wc
  all_goals grind[aI,fT,aQ]
def aP{id d:Nat}{c:E}{a e:Stm}{Q:cF}{S:XV}{H:Heap}(I:Nat->XV->Heap->Prop)(N:Nat)(o:I 0 S H)
  (q:∀k S H,k<=N->I k S H->∃t,ev1 S H c=some (.bool t)/\(t=true↔k<N))
  (p:∀k S H,k<N->I k S H->wpS cp lo (.block d a) (AU cp lo e<|Ek (I<|k+1)<|kP id Q) S H)
  (u:∀S H,I N S H->Q .normal S H):wpS cp lo (.loop<|.seq (.cond c .skip<|.exit id)<|.seq (.block d a) e) (kP id Q) S H:=by
 apply aj (λm S H=>∃k,k<=N/\m=N-k/\I k S H) N ⟨0,byO,byO,o⟩;rintro m S H ⟨k,r,rfl,l⟩;rw[Ai];have⟨t,s,b⟩:=q k S H r l;apply bu s<;>intro h
 .have g:=b.1 h
  rw[CH,JQ,Ai];refine(p k S H g l).mono ?_;intro f n H' j;cases f with
  | normal=>
   apply j.mono;intro f n H' j;cases f with
   | normal=>exact⟨N-(k+1),byO,k+1,byO,rfl,j⟩
   | exit i=>assumption
   | ret=>assumption
  | exit i=>assumption
  | ret=>assumption
 .show kP id Q (.exit id) S H
  grind[ot]
end
def Sl{α:Type}(enc:α->Value)(H:Heap)(v:Value)(l:List α):Prop:=
 (v=.slice none 0 0/\l=[])\/∃b o sp cap xs,v=.slice (some ⟨b,o,sp⟩) l.length cap/\H.get b=some xs/\(xs.drop o).take l.length=l.map enc/\o+l.length<=xs.length/\(sp=none\/sp=some 1)/\l.length<=cap
theorem Sl.mono{c:Type}{enc:c->Value}{H H':Heap}{v:Value}{l:List c}(h:Sl enc H v l)(e:Ext H H'):Sl enc H' v l:=by
 rcases h with h|⟨b,o,sp,a,xs,d,f,g⟩
 .exact .inl h
 .exact .inr ⟨b,o,sp,a,xs,d,e.get f,g⟩
theorem Sl.len{d:Type}{enc:d->Value}{H:Heap}{v:Value}{l:List d}(h:Sl enc H v l):∃a c,v=.slice a l.length c:=by
 rcases h with ⟨rfl,rfl⟩|⟨b,o,sp,e,xs,f,_⟩
 all_goals simp_all
theorem Sl.els{g:Type}{enc:g->Value}(d:g){H:Heap}{v:Value}{l:List g}(h:Sl enc H v l)(m:0<l.length):∃b o sp a xs,v=.slice (some ⟨b,o,sp⟩) l.length a/\H.get b=some xs/\(∀i,i<l.length->xs[o+i]?=some (enc<|l.getD i d))/\o+l.length<=xs.length:=by
 rcases h with ⟨rfl,rfl⟩|⟨b,o,sp,a,xs,j,k,f⟩
 .grind
 .have⟨f,c,_⟩:=f
  refine⟨b,o,sp,a,xs,j,k,λi n=>?_,c⟩;have e:((xs.drop o).take l.length)[i]?=(l.map enc)[i]?:=by rw[f]
  grind
theorem Sl.ofOwn{a:Type}{enc:a->Value}{lo:Nat}{H:Heap}{v:Value}{b:Nat}{l:List a}(h:Own lo 1 H v b<|l.map enc):Sl enc H v l:=by
 obtain⟨_,⟨rfl,h⟩|⟨n,_,d,rfl,c⟩⟩:=h
 .exact .inl ⟨rfl,Wy⟩
 .have:n=l.length:=Wx
  subst this;refine .inr ⟨b,0,some 1,_,_,rfl,c,?_,Wc,.inr rfl,Nat.le_refl _⟩
  grind
theorem Sl.whole{c:Type}{enc:c->Value}{H:Heap}{b n:Nat}{sp:Option Nat}{l:List c}(h:H.get b=some (l.map enc))(d:l.length=n)(a:sp=none\/sp=some 1:=by first|exact .inl rfl|exact .inr rfl):Sl enc H (.slice (some ⟨b,0,sp⟩) n n) l:=by
 subst d;refine .inr ⟨b,0,sp,_,_,rfl,h,?_,Wc,a,Nat.le_refl _⟩
 grind[List.take_of_length_le]
def wF{B:Nat}{H:Heap}:∀(n:Nat) (c:XV),HasN (Has B H .bool) n c->∃l:List Bool,l.length=n/\c=l.map Value.bool
 | 0,c,h=>by simp[HasN]at h;subst h;exact⟨[],rfl,rfl⟩
 | n+1,c,h=>by
  simp[HasN]at h;obtain⟨a,b,rfl,d,f⟩:=h;obtain⟨l,e,rfl⟩:=wF n b f;simp only[Has]at d;obtain⟨x,rfl⟩:=d;exact⟨x::l,Yf,rfl⟩
def KY{B:Nat}{H:Heap}{v:Value}(h:Has B H (.sl .bool) [v]):∃l:List Bool,Sl Value.bool H v l/\l.length<=B:=by
 simp only[Has]at h;rcases h with h|⟨i,len,b,c,d,g,j,k,e,f⟩
 .cases h
  exact⟨[],.inl ⟨rfl,rfl⟩,Wc⟩
 .cases d
  obtain⟨xs,m,rfl⟩:=wF (B:=B) (H:=H) _ _ f;have a:(xs.take len).length=len:=Wr
  exact⟨xs.take len,.inr ⟨i,0,none,b,_,by rw[a],e,by rw[List.drop_zero,a,List.map_take],Wr,.inl rfl,Wr⟩,byO⟩
abbrev SlI:=Sl<|Value.int .i64
abbrev SlB:=Sl Value.bool
open Go.RowKit Go.ChangeShapes Go.WideShapes
section
variable {P:Program}{w W:World}{X:Type}{enc:TypeId×Value->X}
def Fi(ga:List<|Option XV)(w:World):Prop:=∀(g:Nat) (c:XV),ga[g]?=some (some c)->c.all bU=true/\∃(arr:Array Value) (ty:TypeId) (fr:Nat×Nat),w.heap[g]?=some (.cells arr ty fr)/\arr.toList=c
def FW{ga:List<|Option XV}(q:ga.length<=w.heap.size)(h:Fi ga w) :
  ∃φ,HR φ ga.length ga w:=by
 let n:Nat->Nat:=λg=>match w.heap[g]? with
  | some (.cells arr _ _)=>arr.size
  | _=>0
 refine⟨λi=>if i<ga.length then some ⟨i,0,n i,0⟩ else none,λi c a=>?_,λi p b=>?_,λg m=>⟨n g,by simp[m]⟩,λi p b=>?_⟩
 .rw[dv]at a
  have⟨b,arr,ty,f,k,l⟩:=h i c a;have o:i<ga.length:=(List.getElem?_eq_some_iff.1 a).1;have d:n i=arr.size:=Xu
  subst l;refine⟨⟨i,0,n i,0⟩,arr,ty,f,Map.of_some.2 ⟨by simp[o],rfl⟩,k,Yb,Yb,λj v e=>?_⟩;refine⟨v,Wx,?_⟩;exact(cK _ b).2 j v v e e
 all_goals grind
def vH{f:FuncId}{fn:Func}{s:ChangeSpec}{cp:Wl}(L:∀a n,RunOK P a P.globals.size<|run cp n){d:Nat}{tys:List Ty}{S:TypeId}
  (u:fn.params.toList.map (jR P d)=tys.map some) (O:tys.all Ty.shallow=true) (r:fn.resultTypes=#[S]) (G:P.underlying S=some .bool) (hl:laidOutB P=true)
  (M:fn.params.toList.all (λt=>P.readableRec t&&decide (t<P.types.size))=true) (g:s.vars=[]) (b0:∀(X:Type) (ds:List<|DataW X),ds.length=tys.length->s.fn X ds=⟨[.lit<|.bool true],ds,[]⟩)
  {B:Nat} {ga:List<|Option XV} (K:ga.length=P.globals.size) (Q:∀(H:Heap) (vs:XV),Longer ga H->oo B H tys vs->Ev cp H.length f vs H λv _=>v=.bool true)
  (W:World) (hG:P.globals.size<=W.heap.size) (J:Fi ga W) (a:Nat) (args:Array Value) (ds gs:List<|DataW X) (k:List MemPlace)
  (dK:∀(j:Nat) t v,fn.params[j]?=some t->args[j]?=some v->Value.okWide P W .any a t v)
  (U:DataW.Whole enc P fn.params.toList s.vars false W args.toList ds gs k) (hB:∀x ∈ ds,Small B x) :
  Calls P f args W λe z=>∃v,e=.returned v/\s.post enc P fn false true false false W args v z:=by
 have F:=U;obtain⟨p,q,hA,T,rfl,c0,e0⟩:=U;rw[g]at T;obtain⟨rfl,rfl⟩:=trodVars_none T;have C:DataW.TrodAll enc P W 0 (λ_=>true) true fn.params.toList args.toList ds p:=hA;have⟨j0,h0⟩:=FW byO J;have⟨φ,H,A,R,b2,Z,b4,b5⟩:=wI (B:=B) fn.params.toList tys args.toList ds p u (List.all_eq_true.1 O) C (λj t v h1 h2=>dK j t v Wx Wx) hB h0<|Nat.le_refl _;rw[K]at R;have I:=mK L R.rel b5<|Q H A Z b4;refine I.mono λe z ⟨v,cv,H',g0,hv,he,D,m⟩=>?_;subst hv;cases m;have l:∀b,b<W.heap.size->z.heap[b]?=W.heap[b]?:=λb hb=>D.keep b hb λi c p hi I=>absurd (Heap.get_lt I) byO;have N:∀p:MemPlace,p.block<W.heap.size->W.sameAt z p:=by
  intro p V;cases p with
  | cell b o=>exact World.cell?_of_block (w:=W)<|l b V
  | map b=>exact l b V
 have a0:ds.length=tys.length:=by
  have h1:∀(y:List TypeId) (vs:XV) (ds:List<|DataW X) (ps:List MemPlace),DataW.TrodAll enc P W 0 (λ_=>true) true y vs ds ps->ds.length=y.length:=by
   intro y
   induction y with
   | nil=>grind[trodAll_nil]
   | cons t y ih=>grind[trodAll_cons]
  have:=congrArg List.length u
  grind
 have Y:s.fn X (ds++[])=⟨[.lit<|.bool true],ds,[]⟩:=Wx
 refine⟨_,he,ds,[],p++[],[],p,[],F,?_,?_,?_,?_,λh=>by cases h⟩
 .rw[Y,r]
  exact trodAll_mk1<|shut_bool G true
 .grind[oO]
 .rw[Y,g];rfl
 .refine⟨D.os,D.out,λi hi=>?_⟩
  grind
def E3{a:List<|String×DataW Unit}{name:String}{g:Nat}{d:DataW Unit}(f:laidMetH P a W)(j:(a.filter λx=>x.1==name)=[(name,d)])(h:d.handleName?=none)(s:P.globalNamed name=some g):g<W.heap.size:=by
 have c:=laidMetH.filter (λx=>x.1==name) f;rw[j]at c;have e:=(laidMetH_iff.1 c).1;have i:([(name,d)].filter λx=>x.2.handleName?.isNone)=[(name,d)]:=by simp[h]
 rw[i]at e;have⟨ps,⟨r,t,k,b,p,q,l,m,n,o,_⟩,_⟩:=e
 grind[World.var?]
def E2{a:List<|String×DataW Unit}{name:String}{g t n e:Nat}{k:IntKind}{l:XI}(D:laidMetH P a W)(O:(a.filter λx=>x.1==name)=[(name,.agg<|l.map λi=>.lit<|.int k i)])
  (K:P.globalNamed name=some g) (Q:(P.globals[g]?).map (·.type)=some t) (R:P.underlying t=some (.array n e)) (I:P.underlying e=some (.int k)) (F:P.cellsOf t=n) (o:P.cellsOf e=1) :
  ∃(arr:Array Value) (ty:TypeId) (d:Nat×Nat),W.heap[g]?=some (.cells arr ty d)/\arr.toList=l.map (Value.int k):=by
 have v:=laidMetH.filter (λx=>x.1==name) D;rw[O]at v;have y:=(laidMetH_iff.1 v).1;have J:([(name,(.agg (l.map λi=>.lit<|.int k i):DataW Unit))].filter λx=>x.2.handleName?.isNone)=[(name,.agg<|l.map λi=>.lit<|.int k i)]:=rfl;rw[J]at y;have⟨ps,⟨Z,t',c,u,p,q,A,B,U,C,_⟩,_⟩:=y;obtain rfl:=Option.some.inj<|K.symm.trans A;obtain rfl:=Option.some.inj<|Q.symm.trans B;have b:∃ty d,W.heap[g]?=some (.cells c ty d):=by
  grind[World.var?]
 have⟨ty,d,L⟩:=b;refine⟨c,ty,d,L,?_⟩;have⟨xs,m,V,Y,f,S,h⟩:=DataW.trod_array R C;rw[F]at f;rw[o]at h;have s:(l.map λi=>(DataW.lit (.int k i):DataW Unit))=xs.map (·.1):=by
  simp_all
 apply List.ext_getElem?;intro i;have N:l.length=n:=by
  have:=congrArg List.length s
  grind
 by_cases M:i<n
 .have j:=h i M
  have r:i<xs.length:=byO;rw[bc₀ r,Nat.mul_one]at j;have G:i<c.toList.length:=byO;have H:(c.toList.drop i).take 1=[c.toList[i]]:=by
   grind[List.drop_eq_getElem_cons]
  rw[H]at j;have⟨z,hz,hy,_⟩:=DataW.trod_int I j;have T:c.toList[i]=.int k z:=Wx
  have h4:(l.map λi=>(DataW.lit (.int k i):DataW Unit))[i]?=(xs.map (·.1))[i]?:=by rw[s]
  grind
 simp_all
end
def Sub(c1 c2:Wl):Prop:=∀f cf,c1 f=some cf->c2 f=some cf
theorem ud{c d:Wl}(l:Sub c d){a b:CallR}(j:CLeR a b){lo n:Nat}{g:FuncId}{args:XV}{e:Value}{H H':Heap}(h:jv c a lo n g args e H=some H'):jv d b lo n g args e H=some H':=by
 have i:=yT (cp:=c) j (Nat.le_refl n) h;unfold jv at i ⊢;cases k:c g with
 | none=>simp_all
 | some f=>rw[l g f k];simp_all
def sL{d k:Wl}(c:Sub d k):∀n,CLeR (run d n)<|run k n
 | 0=>λ_ _ _ _ _ h=>by assumption
 | n+1=>λlo f args H r h=>by
  have e:=sL c n;simp[run]at h ⊢;cases l:d f with
  | none=>simp_all
  | some cf=>
  rw[c f cf l];rw[l]at h;simp only at h ⊢;split at h<;>try (simp at h)
  rename_i o;simp[o,if_true];split at h
  .split at h
   next i g a=>
    rw[bj e (Nat.le_refl n) _ _ _ _ a];exact h
   next i g a=>
    rw[bj e (Nat.le_refl n) _ _ _ _ a];exact h
   next j q i g a=>
    rw[bj e (Nat.le_refl n) _ _ _ _ a];exact h
   .grind
  .have a:=yS (cp:=d) e (Nat.le_refl n) h
   unfold iT at a ⊢;split at a
   .exact a
   .exact a
   .split at a<;>try (simp at a)
    split at a<;>try (simp at a)
    split at a
    .split at a<;>try (simp at a)
     rename_i b;simp[ud c (λ_ _ _ _ _ h=>h) b];exact a
    .split at a<;>try (simp at a)
     rename_i b;simp[ud c (λ_ _ _ _ _ h=>h) b];exact a
    .split at a<;>try (simp at a)
     rename_i m;split at a<;>try (simp at a)
     rename_i b;simp[if_pos m,ud c (λ_ _ _ _ _ h=>h) b];exact a
    .grind
   .grind
  all_goals omega
def tS{cp:Wl}{lo:Nat}{f:FuncId}{cf:CF}{g:XV->Heap->Option Value}{args:XV}{H:Heap}{v:Value}{R:Wq}(b:cp f=some cf)(e:cf.kind=.prim g)(c:args.length=cf.np)(d:g args H=some v)(a:R v H):Ev cp lo f args H R:=
 ⟨1,v,H,λn h=>by
  obtain⟨m,rfl⟩:∃m,n=m+1:=⟨n-1,byO⟩
  grind[run],a⟩
theorem Ev.sub{a b:Wl}(g:Sub a b){lo:Nat}{f:FuncId}{args:XV}{H:Heap}{R:Wq}(h:Ev a lo f args H R):Ev b lo f args H R:=by have⟨N,v,H',c,d⟩:=h;exact⟨N,v,H',λn e=>sL g n _ _ _ _ _<|c n e,d⟩
open Go.ChangeAt
section
variable {X:Type}{enc:TypeId×Value->X}{P:Program}{w:World}{B:Nat}
theorem HR.addR{φ:Map}{G:Nat}{H:Heap}(m:HR φ G H w){b s:Nat}{arr:Array Value}{ty:TypeId}{y:Nat×Nat}(z:w.heap[b]?=some (.cells arr ty y)){c:XV}(N:s+c.length<=arr.size)
  (J:∀(j:Nat) v,c[j]?=some v->∃u,arr[s+j]?=some u/\VRel φ v u):HR (φ.set H.length ⟨b,s,arr.size-s,0⟩) G (H++[some c]) w:=by
 have k:φ.le<|φ.set H.length ⟨b,s,arr.size-s,0⟩:=by
  intro i p h;have:=m.dom i p h;simp[Map.set];rw[if_neg byO];exact h
 refine⟨λi d l=>?_,λi p h=>?_,λg K=>?_,λi p h=>?_⟩
 .rw[dv]at l
  by_cases L:i<H.length
  .rw[ax₀ L]at l
   have⟨p,a,t,f,A,C,D,F,I⟩:=m.cell i d<|dv.2 l;exact⟨p,a,t,f,Map.of_le k 0 _ _ A,C,D,F,λj v x=>by have⟨u,o,q⟩:=I j v x;exact⟨u,o,q.mono k⟩⟩
  .have r:=(List.getElem?_eq_some_iff.1 l).1
   simp at r;obtain rfl:i=H.length:=byO;simp at l;subst l;refine⟨⟨b,s,arr.size-s,0⟩,arr,ty,y,Map.of_some.2 ⟨XG,rfl⟩,z,Wr,Wr,λj v x=>?_⟩;have⟨u,o,q⟩:=J j v x;exact⟨u,o,q.mono k⟩
 .simp[Map.set]at h
  split at h
  next e=>subst e;simp
  .have:=m.dom i p h;simp;omega
 .have⟨n,M⟩:=m.glob g K
  exact⟨n,k _ _ M⟩
 .simp[Map.set]at h
  split at h
  .cases h;exact(Array.getElem?_eq_some_iff.1 z).1
  .exact m.plc i p h
end
def RZ{P:Prop}(h:P:=by simp(disch:=try exact dO)only[evB,xtr, *]):P:=h
def vM{P:Prop}(h:P:=by simp(disch:=try exact dO)only[evB,xtr, *];rfl):P:=h
def WQ{P:Prop}(h:P:=by simp(disch:=try exact dO)only[evB,xtr, *];try rfl):P:=h
def WW{cp:Wl}{lo:Nat}{l:List<|Nat×E}{a:List E}{Q:cF}{S:XV}{H:Heap}{vs:List<|Nat×Value}{b:XV}(k:Q .normal b H)(h:evSets S H l=some vs:=by exact vM)(d:evChk S H a=true:=by exact RZ)(c:setAll S vs=b:=by exact vM):wpS cp lo (.sets l a) Q S H:=xG h d c k
def U9{cp:Wl}{lo:Nat}{l:List<|Nat×E}{b:List E}{Q:cF}{S:XV}{H:Heap}{vs:List<|Nat×Value}{dst:Option Nat}{o:HOp}{a:E}{xs:XV}(k:wpH cp lo o xs H λv H'=>Q .normal (setD (setAll S vs) dst v) H')(h:evSets S H l=some vs:=by exact vM)(d:evChk S H b=true:=by exact RZ)(c:ev S H a=some xs:=by exact vM):wpS cp lo (.hv l b [] dst o a) Q S H:=yk h d c k
def Ad{cp:Wl}{lo:Nat}{c:E}{a b:Stm}{Q:cF}{S:XV}{H:Heap}{t:Bool}(d:t=true->wpS cp lo a Q S H)(e:t=false->wpS cp lo b Q S H)(h:ev1 S H c=some (.bool t):=by exact vM):wpS cp lo (.cond c a b) Q S H:=bu h d e
def WZ{cp:Wl}{lo:Nat}{c:E}{a b:Stm}{Q:cF}{S:XV}{H:Heap}(k:wpS cp lo b Q S H)(h:ev1 S H c=some (.bool false):=by exact WQ):wpS cp lo (.cond c a b) Q S H:=bu h nofun λ_=>k
def lG{P Q:Prop}(k:Q)(h:Hdn Q->P:=by intro k;(try simp only[aC]);(repeat' ((first|refine WW ?_|refine WR rfl ?_);(try simp only[aC])));exact k.out):P:=h ⟨k⟩
def Ae{P Q:Prop}(k:Q)(h:Hdn Q->P:=by intro k;(try simp only[aC]);refine U9 ?_;exact k.out):P:=h ⟨k⟩
def Af{cf:CF}{R:Wq}{S:XV}{H:Heap}{vs:XV}(k:R (aR vs) H)(h:evList S H cf.res=some vs:=by exact vM):gB cf R .ret S H:=ou h k
def dY{P:Prop}(h:P:=by simp(disch:=try exact dO)only[evB,xtr,Nat.reduceAdd,Nat.reduceBEq,Int.reduceToNat, *]):P:=h
def aM{P:Prop}(h:P:=by simp(disch:=try exact dO)only[evB,xtr,Nat.reduceAdd,Nat.reduceBEq,Int.reduceToNat, *];rfl):P:=h
def eU{P:Prop}(h:P:=by simp(disch:=try exact dO)only[evB,xtr,Nat.reduceAdd,Nat.reduceBEq,Int.reduceToNat, *];try rfl):P:=h
def WX{cp:Wl}{lo:Nat}{l:List<|Nat×E}{a:List E}{Q:cF}{S:XV}{H:Heap}{vs:List<|Nat×Value}{b:XV}(k:Q .normal b H)(h:evSets S H l=some vs:=by exact aM)(d:evChk S H a=true:=by exact dY)(c:setAll S vs=b:=by exact aM):wpS cp lo (.sets l a) Q S H:=xG h d c k
def ay{cp:Wl}{lo:Nat}{l:List<|Nat×E}{b:List E}{Q:cF}{S:XV}{H:Heap}{vs:List<|Nat×Value}{dst:Option Nat}{o:HOp}{a:E}{xs:XV}(k:wpH cp lo o xs H λv H'=>Q .normal (setD (setAll S vs) dst v) H')(h:evSets S H l=some vs:=by exact aM)(d:evChk S H b=true:=by exact dY)(c:ev S H a=some xs:=by exact aM):wpS cp lo (.hv l b [] dst o a) Q S H:=yk h d c k
def WS{cp:Wl}{lo:Nat}{l:List<|Nat×E}{c:List E}{Q:cF}{S:XV}{H:Heap}{vs:List<|Nat×Value}{dst:Option Nat}{o:HOp}{a:E}{xs:XV}{d:XV}{H':Heap}{v:Value}(b:o.isCall=false)(k:Q .normal d H')(h:evSets S H l=some vs:=by exact aM)(g:evChk S H c=true:=by exact dY)(f:ev S H a=some xs:=by exact aM)(i:bh lo o xs H=some (v,H'):=by exact aM)(e:setD (setAll S vs) dst v=d:=by exact aM):wpS cp lo (.hv l c [] dst o a) Q S H:=vN b h g f i e k
def aK{cp:Wl}{lo:Nat}{c:E}{a b:Stm}{Q:cF}{S:XV}{H:Heap}{t:Bool}(d:t=true->wpS cp lo a Q S H)(e:t=false->wpS cp lo b Q S H)(h:ev1 S H c=some (.bool t):=by exact aM):wpS cp lo (.cond c a b) Q S H:=bu h d e
def M1{cp:Wl}{lo:Nat}{c:E}{a b:Stm}{Q:cF}{S:XV}{H:Heap}(k:wpS cp lo a Q S H)(h:ev1 S H c=some (.bool true):=by exact eU):wpS cp lo (.cond c a b) Q S H:=bu h (λ_=>k) nofun
def pt{cp:Wl}{lo:Nat}{c:E}{a b:Stm}{Q:cF}{S:XV}{H:Heap}(k:wpS cp lo b Q S H)(h:ev1 S H c=some (.bool false):=by exact eU):wpS cp lo (.cond c a b) Q S H:=bu h nofun λ_=>k
def aA{P Q:Prop}(k:Q)(h:Hdn Q->P:=by intro k;(try simp only[aC]);(repeat' ((first|refine WX ?_|refine WS rfl ?_);(try simp only[aC])));exact k.out):P:=h ⟨k⟩
def bV{P Q:Prop}(k:Q)(h:Hdn Q->P:=by intro k;(try simp only[aC]);refine ay ?_;exact k.out):P:=h ⟨k⟩
def aL{cf:CF}{R:Wq}{S:XV}{H:Heap}{vs:XV}(k:R (aR vs) H)(h:evList S H cf.res=some vs:=by exact aM):gB cf R .ret S H:=ou h k
def lD{P:Prop}(h:P:=by simp(disch:=try exact dO)only[evB,xtr,Nat.reduceAdd,Nat.reduceMul,Nat.reduceBEq,Int.reduceToNat,Int.reduceEq,Int.reduceNe, *]):P:=h
def bR{P:Prop}(h:P:=by simp(disch:=try exact dO)only[evB,xtr,Nat.reduceAdd,Nat.reduceMul,Nat.reduceBEq,Int.reduceToNat,Int.reduceEq,Int.reduceNe, *];rfl):P:=h
def vA{P:Prop}(h:P:=by simp(disch:=try exact dO)only[evB,xtr,Nat.reduceAdd,Nat.reduceMul,Nat.reduceBEq,Int.reduceToNat,Int.reduceEq,Int.reduceNe, *];try rfl):P:=h
def WY{cp:Wl}{lo:Nat}{l:List<|Nat×E}{a:List E}{Q:cF}{S:XV}{H:Heap}{vs:List<|Nat×Value}{b:XV}(k:Q .normal b H)(h:evSets S H l=some vs:=by exact bR)(d:evChk S H a=true:=by exact lD)(c:setAll S vs=b:=by exact bR):wpS cp lo (.sets l a) Q S H:=xG h d c k
def fC{cp:Wl}{lo:Nat}{l:List<|Nat×E}{b:List E}{Q:cF}{S:XV}{H:Heap}{vs:List<|Nat×Value}{dst:Option Nat}{o:HOp}{a:E}{xs:XV}(k:wpH cp lo o xs H λv H'=>Q .normal (setD (setAll S vs) dst v) H')(h:evSets S H l=some vs:=by exact bR)(d:evChk S H b=true:=by exact lD)(c:ev S H a=some xs:=by exact bR):wpS cp lo (.hv l b [] dst o a) Q S H:=yk h d c k
def WT{cp:Wl}{lo:Nat}{l:List<|Nat×E}{c:List E}{Q:cF}{S:XV}{H:Heap}{vs:List<|Nat×Value}{dst:Option Nat}{o:HOp}{a:E}{xs:XV}{d:XV}{H':Heap}{v:Value}(b:o.isCall=false)(k:Q .normal d H')(h:evSets S H l=some vs:=by exact bR)(g:evChk S H c=true:=by exact lD)(f:ev S H a=some xs:=by exact bR)(i:bh lo o xs H=some (v,H'):=by exact bR)(e:setD (setAll S vs) dst v=d:=by exact bR):wpS cp lo (.hv l c [] dst o a) Q S H:=vN b h g f i e k
def eD{cp:Wl}{lo:Nat}{c:E}{a b:Stm}{Q:cF}{S:XV}{H:Heap}{t:Bool}(d:t=true->wpS cp lo a Q S H)(e:t=false->wpS cp lo b Q S H)(h:ev1 S H c=some (.bool t):=by exact bR):wpS cp lo (.cond c a b) Q S H:=bu h d e
def dw{cp:Wl}{lo:Nat}{c:E}{a b:Stm}{Q:cF}{S:XV}{H:Heap}(k:wpS cp lo a Q S H)(h:ev1 S H c=some (.bool true):=by exact vA):wpS cp lo (.cond c a b) Q S H:=bu h (λ_=>k) nofun
def fO{cp:Wl}{lo:Nat}{c:E}{a b:Stm}{Q:cF}{S:XV}{H:Heap}(k:wpS cp lo b Q S H)(h:ev1 S H c=some (.bool false):=by exact vA):wpS cp lo (.cond c a b) Q S H:=bu h nofun λ_=>k
def aF{P Q:Prop}(k:Q)(h:Hdn Q->P:=by intro k;(try simp only[aC]);(repeat' ((first|refine WY ?_|refine WT rfl ?_);(try simp only[aC])));exact k.out):P:=h ⟨k⟩
def iU{P Q:Prop}(k:Q)(h:Hdn Q->P:=by intro k;(try simp only[aC]);refine fC ?_;exact k.out):P:=h ⟨k⟩
def bD{cf:CF}{R:Wq}{S:XV}{H:Heap}{vs:XV}(k:R (aR vs) H)(h:evList S H cf.res=some vs:=by exact bR):gB cf R .ret S H:=ou h k
def aH{S:XV}{F:(Nat->Value)->XV}(h:S=F (λk=>S.getD k undef)):∃z,S=F z:=⟨_,h⟩
end Go.Abs
