/- Lemmas. -/
import Derived.Test.YtmnlgdpdgjbfgaaGreatF5
set_option linter.all false
namespace Go.Abs
section
variable {ds:List Deferred}{P:Program}{callA:dq}{base lo nt:Nat}{ops:List Oper}{Ts:Nat->Raw}{Hs:Nat->Heap}{φ0:Map}{w0:World}{A:Nat->Prop}{a:Act}{w:World}{p:Nat}{ψ Φ:Map}
theorem C3{e:HOp}{vs:List Value}{H H':Heap}{v:Value}(f:e.isAlloc=true)(d:Abs.hsem callA lo e vs H=some (v,H')):∃c,H'=H++[some c]:=by
 cases e<;>simp[HOp.isAlloc]at f
 .cases vs<;>simp[hsem]at d
  grind
 .rcases vs with _|⟨a,_|⟨b,r⟩⟩<;>simp[hsem]at d
  grind
 .unfold Abs.hsem at d
  grind
 .grind[hsem,Option.map_eq_some_iff]
 .rcases vs with _|⟨a,_|⟨b,r⟩⟩<;>try (simp[Abs.hsem]at d)
  .grind
theorem DC.lens(D:DC P callA base lo nt ops Ts Hs φ0)(c:(ord P ops).length=ops.length):∀k m,m+k<=ops.length->(Hs m).length<=(Hs<|m+k).length:=by
 intro k
 induction k with
 | zero=>simp_all
 | succ k f=>
  intro m d;have⟨i,b,e⟩:=D.at_pos (m:=m+k) byO c;have:=(D.same i _<|bc₀ b).1
  grind
theorem DC.len_le(D:DC P callA base lo nt ops Ts Hs φ0)(d:(ord P ops).length=ops.length){m b:Nat}(h:m<=b)(c:b<=ops.length):(Hs m).length<=(Hs b).length:=by obtain⟨k,rfl⟩:∃k,b=m+k:=⟨b-m,byO⟩;exact D.lens d k m c
theorem DC.made(D:DC P callA base lo nt ops Ts Hs φ0){i:Nat}{o:Oper}(e:ops[i]?=some o)(d:kd P ops i=2)(m:bR ops (Ts<|ps P ops i) o=true) :
  ∃v b xs c,bJ P o.op=some (.h b,xs)/\resolve P o.op=(.h b,xs)/\b.isAlloc=true/\Abs.hsem callA lo b (xs.map<|ay<|Ts<|ps P ops i) (Hs<|ps P ops i)=some (v,Hs<|ps P ops i+1) /\
   Hs (ps P ops i+1)=Hs (ps P ops i)++[some c]/\Ts (ps P ops i+1)=eV (Ts<|ps P ops i) o.dst v:=by
 have⟨v,l,f⟩:=D.step i o e;rcases f with ⟨_,g⟩|⟨k,_,_⟩
 .rw[D.kd_at e]at d
  have⟨b,xs,n,q,r⟩:=sE d;unfold nA at g;have j:cG (bT P ops true i) b=b:=by cases b<;>first|rfl|grind[HOp.isAlloc]
  grind[C3]
 simp_all
theorem DC.pos_of_len(D:DC P callA base lo nt ops Ts Hs φ0)(hn:(ord P ops).length=ops.length){m m':Nat}(hm:m<=ops.length)(h:(Hs m).length<(Hs m').length):m<m':=by grind[len_le]
theorem DC.made_ne(D:DC P callA base lo nt ops Ts Hs φ0)(hn:(ord P ops).length=ops.length){i k:Nat}{o q:Oper}(ho:ops[i]?=some o)(hk:kd P ops i=2)(hw:bR ops (Ts<|ps P ops i) o=true)
  (ho':ops[k]?=some q) (hk':kd P ops k=2) (hw':bR ops (Ts<|ps P ops k) q=true) (hik:i≠k):(Hs<|ps P ops i).length≠(Hs<|ps P ops k).length:=by
 have hi:i<ops.length:=(List.getElem?_eq_some_iff.1 ho).1;have hkl:k<ops.length:=(List.getElem?_eq_some_iff.1 ho').1;have⟨_,_,_,c,_,_,_,_,e1,_⟩:=D.made ho hk hw;have⟨_,_,_,c',_,_,_,_,e2,_⟩:=D.made ho' hk' hw';have hne:ps P ops i≠ps P ops k:=by
  have h1:=(D.pos i hi).2
  grind[pos]
 have hpi:=(D.pos i hi).1;have hpk:=(D.pos k hkl).1;rcases Nat.lt_or_gt_of_ne hne with h|h
 all_goals grind[len_le]
theorem JD.down'(J:JD ds P base lo nt ops Ts Hs φ0 w0 A a w p ψ Φ){i:Nat}(hpre:∀j ∈ bf ops i,A j):∀x j,(A x\/x=i)->x<ops.length->j ∈ bf ops x->A j\/j=i:=by grind[down]
theorem HRel.ext{w':World}{G:Nat}{H:Heap}(h:HRel ψ base G H w)(hs:w.heap.size<=w'.heap.size)(e:∀b,b<w.heap.size->w'.heap[b]?=w.heap[b]?):HRel ψ base G H w':=
 ⟨λi c hc=>by
  grind[cell],h.inj,h.dom,h.glob,λi p hp=>Nat.lt_of_lt_of_le (h.plc i p hp) hs⟩
theorem JD.reader_block(D:DC P callA base lo nt ops Ts Hs φ0)(F:(ord P ops).length=ops.length)(J:JD ds P base lo nt ops Ts Hs φ0 w0 A a w p ψ Φ){i:Nat}{o:Oper}(ho:ops[i]?=some o)(hk:kd P ops i=1)(H:∀j ∈ bf ops i,A j)(G:¬ A i)
  {x:Operand} (hx:cN P ops i=some x) {id:Nat} (hb:ae (ay (Ts<|ps P ops i) x)=some id) {c:List Value} (L:(Hs<|ps P ops i).get id=some c) {q:Place} (hq:Φ id=some q) :
  ∃arr ty t,w.heap[q.b]?=some (.cells arr ty t)/\arr.size=q.s+q.n/\c.length<=q.n/\∀(j:Nat) v,c[j]?=some v->∃u,arr[q.s+j]?=some u/\VRel Φ v u:=by
 have N:i<ops.length:=(List.getElem?_eq_some_iff.1 ho).1;have l0:=(D.pos i N).1;have V:=Heap.get_lt L;have l:∀j,j<ops.length->kd P ops j=3->p<=ps P ops j->ps P ops i<=ps P ops j:=by
  intro j g b r;have W:¬ A j:=λh=>by have:=(J.mov j g b).1 h;omega
  have n:j≠i:=λe=>by subst e;omega
  by_cases f:j ∈ bf ops i\/i ∈ bf ops j
  .rcases f with h|h
   .exact absurd (H j h) W
   .have:=D.bpos j g i h;omega
  .have:=(D.mov j i g N n b f).2.2 hk;omega
 rcases J.dom id q hq with I|⟨k,ok,q1,q2,q3,q4,q5,q6⟩
 .have B:=J.rel.dom id q I
  have K:(Hs p).get id=some c:=by
   by_cases m0:p<=ps P ops i
   .obtain⟨d,M⟩:∃d,ps P ops i=p+d:=⟨ps P ops i-p,byO⟩
    have:=(D.level F p d byO λj g b r=>by have:=l j g b r;omega).2.1 id B;rw[<-M]at this;rw[<-this];exact L
   .
    have b0:∀d,ps P ops i+d<=p->(Hs<|ps P ops i+d).get id=some c:=by
     intro d
     induction d with
     | zero=>intro _;exact L
     | succ d s=>
      intro M;have s:=s byO;have Y:=J.ple;have⟨j,g,X⟩:=D.at_pos (m:=ps P ops i+d) byO F;have k0:ops[j]?=some ops[j]:=bc₀ g;rw[<-Nat.add_assoc];by_cases b:kd P ops j=3
      .have z:A j:=(J.mov j g b).2 byO
       have n:j≠i:=λe=>G<|e▸z;have f:¬ (j ∈ bf ops i\/i ∈ bf ops j):=by
        rintro(h|h)
        .have:=D.bpos i N j h;omega
        .exact G<|J.down j i z g h
       have:=((D.mov j i g N n b f).2.2 hk).2 id (by rw[X];exact Heap.get_lt s) (λy hy=>by rw[hx]at hy;cases hy;exact hb);rw[X]at this;rw[this];exact s
      .
       have lv:=D.level F (ps P ops i+d) 1 byO (λj' T C g0=>by
        refine Decidable.byContradiction λc0=>?_;have e:ps P ops j'=ps P ops i+d:=byO;have R:=(D.pos j' T).2;rw[e,<-X,(D.pos j g).2]at R;simp at R;subst R;exact b C)
       rw[lv.2.1 id<|Heap.get_lt s];exact s
    have:=b0 (p-ps P ops i) byO;rw[show ps P ops i+(p-ps P ops i)=p by omega]at this;exact this
  have⟨q',arr,ty,t,e1,e2,e3,e4,e5,_⟩:=J.rel.cell id c K;rw[I]at e1;cases e1;exact⟨arr,ty,t,e2,e3,e4,λj v Z=>by have⟨u,hu,hr⟩:=e5 j v Z;exact⟨u,hu,hr.mono J.le⟩⟩
 .have⟨q',arr,ty,t,O,a2,a3,a4,⟨c',Q,a6,a7⟩,_,_⟩:=J.al k ok q1 q2 q3 q4 q5
  rw[<-q6]at O Q;rw[hq]at O;cases O;have U:k<ops.length:=(List.getElem?_eq_some_iff.1 q1).1;have h0:=(D.pos k U).1;have e0:ps P ops k<ps P ops i:=D.pos_of_len F byO (by rw[<-q6];exact V);have S:c'=c:=by
   obtain⟨d,M⟩:∃d,ps P ops i=ps P ops k+1+d:=⟨ps P ops i-(ps P ops k+1),byO⟩;have:=(D.level F (ps P ops k+1) d byO λj g b r=>by have:=l j g b byO;omega).2.1 id<|Heap.get_lt Q;rw[<-M,L,Q]at this;simpa using this.symm
  subst S;exact⟨arr,ty,t,a3,byO,a6,λj v Z=>by rw[a2,Nat.zero_add];exact a7 j v Z⟩
theorem JD.light(D:DC P callA base lo nt ops Ts Hs φ0)(hn:(ord P ops).length=ops.length)(J:JD ds P base lo nt ops Ts Hs φ0 w0 A a w p ψ Φ){i:Nat}{o:Oper}(ho:ops[i]?=some o)(hk:kd P ops i=0\/kd P ops i=1)(hpre:∀j ∈ bf ops i,A j)(hnA:¬ A i)
  (hw:bR ops (Ts<|ps P ops i) o=true) {K:Act->World->Prop} (hK:∀a',JD ds P base lo nt ops Ts Hs φ0 w0 (λj=>A j\/j=i) a' w p ψ Φ->K a' w) {Q:Exit->Act->World->Prop}:o.wp P a w K Q:=by
 have hi:i<ops.length:=(List.getElem?_eq_some_iff.1 ho).1;have hk':=hk;rw[D.kd_at ho]at hk';have⟨l,xs,r1,r2⟩:=sF hk';have⟨v,h1,h2⟩:=D.step i o ho;rcases h2 with ⟨_,hs⟩|⟨hw',_,_⟩
 .unfold nA at hs
  rw[r1]at hs;simp[aa₀,ad₀]at hs;obtain⟨v',hl,rfl,_⟩:=hs;have hρ:=J.evalOpd D ho hpre hnA;rw[r1]at hρ;have r0:bJ P o.op=some (.l l,xs):=by
   unfold resolve at r1;cases h0:bJ P o.op with
   | none=>simp_all
   | some q=>simp_all
  have run:∃cv,(execOp a.eval o).run P w=.ok (.value cv) w/\VRel Φ v' cv:=by
   cases hrd:fH l with
   | false=>
    rw[qK hrd _ _ []]at hl;exact oS r0 hρ (H:=[]) (λi c p hc=>by grind[Heap.get]) hl
   | true=>
    have hk1:kd P ops i=1:=by grind[DC.kd_at]
    have hxs:∃x r,xs=x::r:=by
     cases xs with
     | nil=>cases l<;>simp[fH]at hrd<;>simp[aJ]at hl
     | cons x r=>simp_all
    obtain⟨x,r,rfl⟩:=hxs;have hfo:cN P ops i=some x:=by grind[cN]
    cases hb:ae (ay (Ts<|ps P ops i) x)with
    | none=>
     have:=uU hrd _ _ [] hl (λy id hy hyb=>by simp_all);exact oS r0 hρ (H:=[]) (λi c p hc=>by grind[Heap.get]) this
    | some id=>
     let H1:Heap:=List.replicate id none++[match (Hs<|ps P ops i).get id with|some c=>some c|none=>none]
     have hget:H1.get id=(Hs<|ps P ops i).get id:=by
      grind[Heap.get_append_right]
     have hne:∀k c,H1.get k=some c->k=id:=by
      grind[Heap.get]
     have hl2:=uU hrd _ _ H1 hl (λy id' hy hyb=>by simp_all);refine oS r0 hρ (H:=H1) (λk c q hkc hkq=>?_) hl2
     grind[reader_block]
  have⟨cv,g1,g2⟩:=run;unfold Oper.wp;rw[g1];apply hK _;have⟨t1,t2,t3⟩:=J.put D hn ho hnA (Map.le_refl Φ) h1 g2;have nk:∀j,(kd P ops j=3\/kd P ops j=2)->((A j\/j=i)↔A j):=by
   grind
  exact⟨J.down' hpre,J.ple,λj hj hkj=>by rw[nk j<|.inl hkj];exact J.mov j hj hkj,λj hj hkj hpj=>.inl<|J.alc j hj hkj hpj,J.rel,J.le,J.plc,
   λid q hq=>(J.dom id q hq).imp _root_.id λ⟨k,ok,q1,q2,q3,q4⟩=>⟨k,ok,q1,q2,.inl q3,q4⟩,
   λk ok q1 q2 q3 q4 q5=>J.al k ok q1 q2 ((nk k<|.inr q2).1 q3) q4 q5,t1,t2,t3,J.le0,J.size,J.keep,J.fresh,J.os,J.out⟩
 simp_all
end
section
variable {ds:List Deferred}{P:Program}{callA:dq}{base lo nt:Nat}{ops:List Oper}{Ts:Nat->Raw}{Hs:Nat->Heap}{φ0:Map}{w0:World}{A:Nat->Prop}{a:Act}{w:World}{p:Nat}{ψ Φ:Map}
theorem JD.idle(D:DC P callA base lo nt ops Ts Hs φ0)(u:(ord P ops).length=ops.length)(J:JD ds P base lo nt ops Ts Hs φ0 w0 A a w p ψ Φ){i:Nat}{o:Oper}(r:ops[i]?=some o)(I:kd P ops i≠3)(c:∀j ∈ bf ops i,A j)(f:¬ A i)
  (K:bR ops (Ts<|ps P ops i) o=false):JD ds P base lo nt ops Ts Hs φ0 w0 (λj=>A j\/j=i) (a.put o.dst undef) w p ψ Φ:=by
 have⟨v,s,t⟩:=D.step i o r;rcases t with ⟨y,_⟩|⟨_,rfl,H⟩
 .simp_all
 .have⟨C,F,G⟩:=J.put D u r f (Map.le_refl Φ) s gX
  have z:∀j,kd P ops j=3->((A j\/j=i)↔A j):=by
   grind
  refine⟨J.down' c,J.ple,λj e b=>by rw[z j b];exact J.mov j e b,λj e b g=>.inl<|J.alc j e b g,J.rel,J.le,J.plc,
   λid q x=>(J.dom id q x).imp _root_.id λ⟨k,h,l,m,d,n⟩=>⟨k,h,l,m,.inl d,n⟩,λk h l m d n B=>?_,C,F,G,J.le0,J.size,J.keep,J.fresh,J.os,J.out⟩
  rcases d with d|rfl
  .exact J.al k h l m d n B
  simp_all
theorem JD.make(D:DC P callA base lo nt ops Ts Hs φ0)(hn:(ord P ops).length=ops.length)(J:JD ds P base lo nt ops Ts Hs φ0 w0 A a w p ψ Φ){i:Nat}{o:Oper}(F:ops[i]?=some o)(U:kd P ops i=2)(B:∀j ∈ bf ops i,A j)(x:¬ A i)
  (hw:bR ops (Ts<|ps P ops i) o=true) {K:Act->World->Prop} (hK:∀a' w' n0,JD ds P base lo nt ops Ts Hs φ0 w0 (λj=>A j\/j=i) a' w' p ψ n0->K a' w') {Q:Exit->Act->World->Prop}:o.wp P a w K Q:=by
 have hi:i<ops.length:=(List.getElem?_eq_some_iff.1 F).1;have o0:=(D.pos i hi).1;have M:p<=ps P ops i:=Nat.le_of_not_lt λh=>x<|J.alc i hi U h;have⟨v,hh,xs,c,r0,r1,r2,hs,L,Z⟩:=D.made F U hw;have O:=J.evalOpd D F B x;rw[r1]at O;have⟨arr,ty,I,c',cv,X,e1,e2,e3,e4,e5,e6,_⟩:=Du (P:=P) (w:=w) r0 r2 O hs;have c0:c'=c:=by rw[L]at e2;simpa using e2.symm
 subst c0
 let N:=(Hs<|ps P ops i).length
 let q:Place:=⟨w.heap.size,0,arr.size⟩
 have C:∀l,Φ N≠some l:=by
  intro l d;rcases J.dom N l d with h|⟨k,V,H,R,S,W,q5,q6⟩
  .have:=J.rel.dom N l h
   have:=D.len_le hn M byO;omega
  .have s:i≠k:=λe=>x<|e▸S
   exact D.made_ne hn F U hw H R q5 s q6
 have n:Φ.le<|Φ.set N q:=Map.le_set C q;have g:Φ.set N q N=some q:=by simp[Map.set]
 have⟨t1,t2,t3⟩:=J.put D hn F x n Z<|e6 (Φ.set N q) g;have m:(({ w with drawn:=X }:World).alloc<|.cells arr ty I).heap=w.heap.push (.cells arr ty I):=rfl;have r:∀b,b<w.heap.size->(({ w with drawn:=X }:World).alloc<|.cells arr ty I).heap[b]?=w.heap[b]?:=by
  intro b hb;rw[m,Array.getElem?_push];split
  .omega
  .rfl
 have G:w.heap.size<=(({ w with drawn:=X }:World).alloc<|.cells arr ty I).heap.size:=by rw[m];simp
 unfold Oper.wp;rw[e1];apply hK _ _ (Φ.set N q);have nk:∀j,kd P ops j=3->((A j\/j=i)↔A j):=by
  intro j T;constructor
  .rintro(h|rfl)
   .exact h
   .omega
  .exact .inl
 refine⟨J.down' B,J.ple,λj T t=>by rw[nk j t];exact J.mov j T t,λj T t g0=>.inl<|J.alc j T t g0,J.rel.ext G r,Map.le_trans J.le n,?_,?_,?_,t1,t2,t3,Map.le_trans J.le0 n,Nat.le_trans J.size G,?_,?_,J.os,J.out⟩
 .intro id l d
  by_cases f:id=N
  .subst f;rw[g]at d;cases d;rw[m];simp[q]
  .simp[Map.set,f]at d;exact bd₀ (J.plc id l d) G
 .intro id l d
  by_cases f:id=N
  .subst f;exact .inr ⟨i,o,F,U,.inr rfl,M,hw,rfl⟩
  .simp[Map.set,f]at d
   exact(J.dom id l d).imp _root_.id λ⟨k,V,H,R,S,W⟩=>⟨k,V,H,R,.inl S,W⟩
 .intro k V H R S W q5
  by_cases s:k=i
  .subst s
   rw[F]at H;cases H;refine⟨q,arr,ty,I,g,rfl,by rw[m];simp[q],rfl,⟨c',by rw[L];exact Heap.get_append_right,e3,λj v hv=>?_⟩,e5,λid l d f=>?_⟩
   .have⟨u,hu,hr⟩:=e4 j v hv;exact⟨u,hu,hr.mono n⟩
   .simp[Map.set]at d
    rw[if_neg f]at d;have:=J.plc id l d;simp[q];omega
  .have l0:A k:=S.resolve_right s
   have⟨l,arr',m0,Y,a1,a2,a3,a4,⟨c2,a5,a6,a7⟩,a8,a9⟩:=J.al k V H R l0 W q5;have b0:=J.plc _ l a1;refine⟨l,arr',m0,Y,n _ _ a1,a2,by rw[r _ b0];exact a3,a4,⟨c2,a5,a6,λj v hv=>?_⟩,a8,λid k0 y f=>?_⟩
   .have⟨u,hu,hr⟩:=a7 j v hv;exact⟨u,hu,hr.mono n⟩
   .by_cases z:id=N
    .subst z;rw[g]at y;cases y;simp[q];omega
    .simp[Map.set,z]at y;exact a9 id k0 y f
 .intro b hb e0
  rw[r b<|bd₀ hb J.size];exact J.keep b hb e0
 .intro id l h0 d
  by_cases f:id=N
  .subst f;rw[g]at d;cases d;exact .inl J.size
  .simp[Map.set,f]at d;exact J.fresh id l h0 d
theorem JD.move(D:DC P callA base lo nt ops Ts Hs φ0)(o0:fP P base P.globals.size callA)(Z0:base<=lo)(W0:∀i q,φ0 i=some q->i<(Hs 0).length)(hn:(ord P ops).length=ops.length)(J:JD ds P base lo nt ops Ts Hs φ0 w0 A a w p ψ Φ){i:Nat}{o:Oper}
  (ho:ops[i]?=some o) (hk:kd P ops i=3) (G:∀j ∈ bf ops i,A j) (e0:¬ A i) :
  (bR ops (Ts<|ps P ops i) o=true->∀{K:Act->World->Prop},(∀a' w' x0 s,JD ds P base lo nt ops Ts Hs φ0 w0 (λj=>A j\/j=i) a' w' (ps P ops i+1) x0 s->K a' w')->∀{Q:Exit->Act->World->Prop},o.wp P a w K Q) /\
  (bR ops (Ts<|ps P ops i) o=false->∃x0,JD ds P base lo nt ops Ts Hs φ0 w0 (λj=>A j\/j=i) (a.put o.dst undef) w (ps P ops i+1) x0 Φ):=by
 have hi:i<ops.length:=(List.getElem?_eq_some_iff.1 ho).1;have R:=(D.pos i hi).1;have T0:p<=ps P ops i:=Nat.le_of_not_lt λh=>e0<|(J.mov i hi hk).2 h;have m0:∀j,j<ops.length->kd P ops j=3->j≠i->(ps P ops j<p↔ps P ops j<ps P ops i+1):=by
  intro j B m z;refine⟨λh=>byO,λh=>?_⟩;have o1:ps P ops j≠ps P ops i:=by
   intro e;have H:=(D.pos j B).2;rw[e,(D.pos i hi).2]at H;simp at H;exact z H.symm
  by_cases F:i ∈ bf ops j\/j ∈ bf ops i
  .rcases F with h'|h'
   .have:=D.bpos j B i h';omega
   .exact(J.mov j B m).1<|G j h'
  .exact absurd m (D.mov i j hi B (λe=>z e.symm) hk F).1
 have M:∀j,j<ops.length->kd P ops j=2->ps P ops j<ps P ops i+1->A j:=by
  intro j B m S;have z:i≠j:=λe=>by subst e;omega
  by_cases r1:ps P ops j<p
  .exact J.alc j B m r1
  .by_cases F:i ∈ bf ops j\/j ∈ bf ops i
   .rcases F with h'|h'
    .have:=D.bpos j B i h';omega
    .exact G j h'
   .have:=(D.mov i j hi B z hk F).2.1 m;omega
 have O:=J.at_level D hn T0 (Nat.le_of_lt R) (λj B m S=>by
  by_cases z:j=i
  .subst z;exact Nat.le_refl _
  .refine Decidable.byContradiction λhc=>?_
   have:=(m0 j B m z).2 byO;omega) λj B m _ m1=>M j B m byO
 have n0:∀id q,Φ id=some q->id<(Hs<|ps P ops i).length\/∃k L,ops[k]?=some L/\kd P ops k=2/\A k/\ps P ops i+1<=ps P ops k/\bR ops (Ts<|ps P ops k) L=true/\id=(Hs<|ps P ops k).length:=by
  intro id q r;rcases J.dom id q r with h|⟨k,L,I,X,q3,q4,Z,q6⟩
  .left
   have:=J.rel.dom id q h;have:=D.len_le hn T0<|Nat.le_of_lt R;omega
  .have N:k<ops.length:=(List.getElem?_eq_some_iff.1 I).1
   by_cases m1:ps P ops k<ps P ops i
   .left
    have⟨_,_,_,c,_,_,_,_,e1,_⟩:=D.made I X Z;have H:(Hs<|ps P ops k+1).length=(Hs<|ps P ops k).length+1:=by rw[e1];simp
    have:=D.len_le hn (show ps P ops k+1<=ps P ops i by omega)<|Nat.le_of_lt R;omega
   .right
    have o1:ps P ops k≠ps P ops i:=by
     intro e;have H:=(D.pos k N).2;rw[e,(D.pos i hi).2]at H;simp at H;subst H;omega
    exact⟨k,L,I,X,q3,byO,Z,q6⟩
 have k0:∀j c q,lo<=j->(Hs<|ps P ops i).get j=some c->Φ j=some q->w0.heap.size<=q.b\/∃j c q',lo<=j/\(Hs 0).get j=some c/\φ0 j=some q'/\q'.b=q.b:=by
  intro j c q c0 hc r;cases h0:φ0 j with
  | none=>exact J.fresh j q h0 r
  | some q0=>
   have:=J.le0 j q0 h0;rw[r]at this;cases this;have⟨d,hd⟩:=D.keeps (ps P ops i) (Nat.le_of_lt R) j c (W0 j q h0) ⟨q,h0⟩ hc;exact .inr ⟨j,d,q,c0,hd,h0,rfl⟩
 have l0:∀j,j<ops.length->kd P ops j=3->((A j\/j=i)↔ps P ops j<ps P ops i+1):=by
  intro j B m;by_cases z:j=i
  .subst z;simp
  .rw[<-m0 j B m z,<-J.mov j B m];simp[z]
 have⟨v,y0,U⟩:=D.step i o ho;constructor
 .intro hw K hK Q
  rcases U with ⟨_,hs⟩|⟨V,_,_⟩
  .have z0:=D.cl (ps P ops i)<|Nat.le_of_lt R
   have u1:∀x ∈ (resolve P o.op).2,VRel (Φ.below (Hs<|ps P ops i).length) (ay (Ts<|ps P ops i) x)<|a.eval x:=by
    intro x hx;have H:=J.evalOpd D ho G e0 x hx;have hop:=(D.opsOK o<|List.mem_of_getElem? ho).2 x hx;cases x with
    | tmp t=>exact(z0.2.1 t).below H
    | const v=>exact(nV _ (by simpa[j2,kj]using hop):VRel _ v v)
    | global g=>
     have⟨n,hn⟩:=O.glob g (by simpa[j2,kj]using hop);exact .ptr g 0 _ hn
    | func f=>exact .func f #[] #[] #[] #[] rfl rfl (λj x y hx=>by simp at hx) (λj x y hx=>by simp at hx)
   refine Bs (raised:=bT P ops true i) o0 Z0 z0.1 O u1 hs λcv s0 w' l hv=>?_
   let s:Map:=λid=>if id<(Hs<|ps P ops i+1).length then s0 id else Φ id
   have x1:=l.keeps.1;have C:Φ.le s:=by
    intro id q r;rcases n0 id q r with h|⟨k,L,I,X,q3,q4,Z,q6⟩
    .have h2:Φ.below (Hs<|ps P ops i).length id=some q:=by unfold Map.below;rw[if_pos h];exact r
     simp[s];rw[if_pos byO];exact l.le id q h2
    .have N:k<ops.length:=(List.getElem?_eq_some_iff.1 I).1
     have:=D.len_le hn q4<|Nat.le_of_lt (D.pos k N).1;simp[s];rw[if_neg byO];exact r
   have W:s0.le s:=by
    intro id q r;have:=l.rel.dom id q r;simp[s];rw[if_pos this];exact r
   have⟨t1,t2,t3⟩:=J.put D hn ho e0 C y0<|hv.mono W;refine hK _ w' s0 s ⟨J.down' G,byO,l0,λj B m S=>.inl<|M j B m S,l.rel,W,?_,?_,?_,t1,t2,t3,Map.le_trans J.le0 C,Nat.le_trans J.size l.size,?_,?_,l.os.trans J.os,l.out.trans J.out⟩
   .intro id q r
    simp[s]at r;split at r
    .exact l.rel.plc id q r
    .exact bd₀ (J.plc id q r) l.size
   .intro id q r
    simp[s]at r;split at r
    .exact .inl r
    next y1=>
     rcases n0 id q r with h|⟨k,L,I,X,q3,q4,Z,q6⟩
     .omega
     .exact .inr ⟨k,L,I,X,.inl q3,q4,Z,q6⟩
   .intro k L I X q3 q4 Z
    have p0:k≠i:=λe=>by subst e;omega
    have Y:A k:=q3.resolve_right p0;have⟨q',arr',w1,X0,a1,a2,a3,a4,⟨c2,a5,a6,a7⟩,a8,a9⟩:=J.al k L I X Y byO Z;have N:k<ops.length:=(List.getElem?_eq_some_iff.1 I).1;have b1:=D.len_le hn q4<|Nat.le_of_lt (D.pos k N).1;have Y0:=J.plc _ q' a1;have r0:w'.heap[q'.b]?=w.heap[q'.b]?:=by
     refine l.keep q'.b Y0 λj c p' c0 hc p1=>?_;have R0:=Heap.get_lt hc;exact a9 j p' (Map.below_le _ _ j p' p1) byO
    refine⟨q',arr',w1,X0,C _ _ a1,a2,by rw[r0];exact a3,a4,⟨c2,a5,a6,λj v hv=>?_⟩,a8,λid g0 T H0=>?_⟩
    .have⟨u,hu,hr⟩:=a7 j v hv;exact⟨u,hu,hr.mono C⟩
    .simp[s]at T
     split at T
     .cases hb:Φ.below (Hs<|ps P ops i).length id with
      | some Y=>
       have:=l.le id Y hb;rw[T]at this;cases this;exact a9 id g0 (Map.below_le _ _ id g0 hb) H0
      | none=>
       rcases l.fresh id g0 hb T with h|⟨j,c,b0,H,h2,h3,h4⟩
       .omega
       .rw[<-h4]
        have R0:=Heap.get_lt h2;exact a9 j b0 (Map.below_le _ _ j b0 h3) byO
     .exact a9 id g0 T H0
   .intro b hb S0
    rw[l.keep b (bd₀ hb J.size) ?_,J.keep b hb S0];intro j c q c0 hc r;rcases k0 j c q c0 hc (Map.below_le _ _ j q r)with h|⟨j',c',q',H,h2,h3,h4⟩
    .omega
    .rw[<-h4];exact S0 j' c' q' H h2 h3
   .intro id q h0 r
    simp[s]at r;split at r
    .cases hb:Φ.below (Hs<|ps P ops i).length id with
     | some Y=>
      have:=l.le id Y hb;rw[r]at this;cases this;exact J.fresh id q h0<|Map.below_le _ _ id q hb
     | none=>
      rcases l.fresh id q hb r with h|⟨j,c,b0,H,h2,h3,h4⟩
      .exact .inl<|Nat.le_trans J.size h
      .rw[<-h4];exact k0 j c b0 H h2<|Map.below_le _ _ j b0 h3
    .exact J.fresh id q h0 r
  .rw[hw]at V;simp at V
 .intro hw
  rcases U with ⟨V,_⟩|⟨_,rfl,hH⟩
  .rw[hw]at V;simp at V
  .have⟨t1,t2,t3⟩:=J.put D hn ho e0 (Map.le_refl Φ) y0 gX
   refine⟨Φ.below (Hs<|ps P ops i).length,J.down' G,byO,l0,λj B m S=>.inl<|M j B m S,by rw[hH];exact O,Map.below_le _ _,J.plc,?_,?_,t1,t2,t3,J.le0,J.size,J.keep,J.fresh,J.os,J.out⟩
   .intro id q r
    rcases n0 id q r with h|⟨k,L,I,X,q3,q4,Z,q6⟩
    .left;unfold Map.below;rw[if_pos h];exact r
    .exact .inr ⟨k,L,I,X,.inl q3,q4,Z,q6⟩
   .intro k L I X q3 q4 Z
    have p0:k≠i:=λe=>by subst e;omega
    exact J.al k L I X (q3.resolve_right p0) byO Z
end
section
variable {ds:List Deferred}{P:Program}{callA:dq}{base lo nt:Nat}{ops:List Oper}
theorem sC:∀{l:List Nat} {t:Nat},t ∈ l->∃j,idxOf l t=some j
 | x::r,t,h=>by
  unfold idxOf;split
  .simp_all
  .have:t ∈ r:=by
    grind
   have⟨j,a⟩:=sC this
   simp_all
theorem yv{raised:Nat->Bool}{l:List Nat}{a:Nat->Raw}{f:Nat->Heap}
  (c:∀m i,l[m]?=some i->∃o,ops[i]?=some o/\bV P callA lo ops (raised i) o (a m) (f m)=some (a<|m+1,f<|m+1)) {t:Nat}:∀k m,m+k<=l.length->(∀x i o,m<=x->x<m+k->l[x]?=some i->ops[i]?=some o->o.dst≠some t)->a (m+k) t=a m t:=by
 intro k
 induction k with
 | zero=>intro m _ _;rfl
 | succ k q=>
  intro m s g;have⟨o,n,p⟩:=c (m+k) _<|bc₀ byO;have⟨v,e,_⟩:=lZ p;rw[<-Nat.add_assoc,e];have b:=g (m+k) _ o byO byO (bc₀ byO) n;have:eV (a<|m+k) o.dst v t=a (m+k) t:=by
   cases j:o.dst with
   | none=>rfl
   | some d=>
    simp only[eV];split
    next e=>subst e;exact absurd j b
    .rfl
  rw[this];exact q m byO λx i o h r=>g x i o h byO
theorem lM(h:fQ P ops=true):(ord P ops).length=ops.length/\(∀i,i<ops.length->i ∈ ord P ops)/\Nd (ord P ops)/\(∀i ∈ ord P ops,i<ops.length) /\
  (∀i o,ops[i]?=some o->∀j ∈ bf ops i,∃e ∈ o.after.toList,Region.binds .any e=true/\(e.on=j\/j ∈ bf ops e.on)) /\
  (∀i o,ops[i]?=some o->∀e ∈ o.after.toList,Region.binds .any e=true->e.on<i) /\
  (∀i,i<ops.length->∀j ∈ bf ops i,ps P ops j<ps P ops i) /\
  (∀i o j a,ops[i]?=some o->o.guard=some (j,a)->j ∈ bf ops i) /\
  (∀i j o q,i≠j->ops[i]?=some o->ops[j]?=some q->¬ (i ∈ bf ops j\/j ∈ bf ops i)->∀d,o.dst=some d->q.dst≠some d/\d ∉ qt P ops q) /\
  (∀i j,i<ops.length->j<ops.length->i≠j->kd P ops i=3->¬ (i ∈ bf ops j\/j ∈ bf ops i)->kd P ops j≠3/\(kd P ops j=2->ps P ops i<ps P ops j) /\
   (kd P ops j=1->ps P ops j<ps P ops i/\((sZ (kh P ops) (beforeL ops) i=true/\∃o,ops[i]?=some o/\gk P o=true)\/(i,j) ∈ fZ P ops true))) /\
  (∀q ∈ fZ P ops true,stays ops (beforeL ops) q.1 (cN P ops q.1)=true/\stays ops (beforeL ops) q.2 (cN P ops q.2)=true):=by
 unfold fQ at h;simp only[ac₀]at h;obtain⟨⟨⟨⟨⟨⟨⟨⟨⟨⟨y,p⟩,r⟩,s⟩,t⟩,z⟩,u⟩,v⟩,A⟩,m⟩,n⟩:=h;have l:∀i j,ordered (beforeL ops) i j=true↔(i ∈ bf ops j\/j ∈ bf ops i):=by
  grind[ordered,bf,bOf]
 refine⟨by grind[ord],λi c=>?_,sM r,λi c=>?_,λi o b j g=>?_,λi o b e D B=>?_,λi c j g=>?_,λi o j a b w=>?_,λi j o q k b x f d C=>?_,λi j c g k F f=>?_,λq x=>?_⟩
 .have:=List.all_eq_true.1 p i (by simp_all);grind[ord]
 .have:=List.all_eq_true.1 s i c;simp_all
 .have c:i<ops.length:=(List.getElem?_eq_some_iff.1 b).1
  have:=List.all_eq_true.1 (List.all_eq_true.1 t i (by simp_all)) j g;rw[b]at this;simp only[Option.map_some,aq₀,List.any_eq_true,ac₀,ar₀,beq_iff_eq,List.contains_eq_mem,af₀]at this
  assumption
 .grind
 .have:=List.all_eq_true.1 (List.all_eq_true.1 u i (by simp_all)) j g
  grind[ps,ord]
 .have c:i<ops.length:=(List.getElem?_eq_some_iff.1 b).1
  have:=List.all_eq_true.1 v i (by simp_all);rw[b]at this;simp[ao₀,w,List.contains_eq_mem,af₀]at this;exact this
 all_goals grind[kd,ps,ord]
theorem uv{raised:Nat->Bool}{b:Nat->Raw}{e:Nat->Heap}(z:(ord P ops).length=ops.length)
  (d:∀m i,(ord P ops)[m]?=some i->∃o,ops[i]?=some o/\bV P callA lo ops (raised i) o (b m) (e m)=some (b<|m+1,e<|m+1))
  (a:∀m i,(ord P ops)[m]?=some i->i<ops.length/\ps P ops i=m) (p:∀i,i<ops.length->∀j ∈ bf ops i,ps P ops j<ps P ops i) {i:Nat} (q:i<ops.length) (s:ps P ops i<ops.length) {x:Operand}
  (h:stays ops (beforeL ops) i (some x)=true):ay (b ops.length) x=ay (b<|ps P ops i) x:=by
 cases x with
 | tmp t=>
  simp[stays,List.all_eq_true,List.mem_range,ar₀,Bool.not_eq_true',List.contains_eq_mem,af₀]at h;have:=yv (t:=t) d (ops.length-ps P ops i) (ps P ops i) byO (λy j o u w k l n=>by
   have r:=a y j k;rcases h j r.1 with c|c
   .simp[l,n]at c
   .have:=p i q j c;omega)
  rw[show ps P ops i+(ops.length-ps P ops i)=ops.length by omega]at this;exact this
 | const v=>rfl
 | global g=>simp[stays]at h
 | func f=>simp[stays]at h
theorem xZ(z1:dK callA)(L:fP P base P.globals.size callA):∀(lo:Nat) (Q:Exit->Act->World->Prop) (nt:Nat) (ops:List Oper) (ds:List Deferred) (φ:Map) (H:Heap) (w:World) (T:Raw) (a:Act),base<=lo->lo<=H.length->opsOK P nt ops=true->fQ P ops=true ->
  Tmps ds φ nt T a->HRel φ base P.globals.size H w->∀T' H',bZ P callA lo ops (bT P ops true) (dN P ops true) T H=some (T',H')->nG P ops true T' ->
  (∀a' w' w0,Tmps ds w0 nt T' a'->Eff φ base P.globals.size lo H w w0 H' w'->Q .normal a' w')->wpAny P .any ops.toArray Q ops.length (Array.replicate ops.length false) a { w with drawn:=w.drawn+1 }:=by
 intro lo Q nt ops ds φ H w T a R0 y2 H0 Y0 hT hH T' H' o2 X0 hK;have⟨s1,s2,s3,s4,s5,s6,s7,s8,s9,H2,L2⟩:=lM Y0;have⟨S,R,e1,e2,e3,e4,m0⟩:=mz _ T H T' H' o2;have b2:dN P ops true=ord P ops:=rfl;rw[b2]at e3 e4 m0;rw[s1]at e3 e4;subst e1 e2;have B:∀i,i<ops.length->ps P ops i<ops.length/\(ord P ops)[ps P ops i]?=some i:=by
  intro i g;have⟨j,Z⟩:=sC<|s2 i g;have hg:=dB Z;have:ps P ops i=j:=by simp[ps,posOf,Z]
  rw[this];exact⟨by have:=(List.getElem?_eq_some_iff.1 hg).1;omega,hg⟩
 have g0:∀m i,(ord P ops)[m]?=some i->i<ops.length/\ps P ops i=m:=by
  intro m i Y1;have g:=s4 i<|List.mem_of_getElem? Y1;exact⟨g,s3 _ m i (B i g).2 Y1⟩
 have p2:=P1 L R0 H0 m0 y2 hT hH;have S0:∀m,m<=ops.length->lo<=(R m).length/\(∀t,ClV (R m).length<|S m t)/\∀i c v,(R m).get i=some c->v ∈ c->ClV (R m).length v:=by
  intro m Z1;have⟨w0,w',a',q1,q2,q3,q4,q5⟩:=p2 m byO;exact⟨q3,Da q1 q2⟩
 have N:∀i o,ops[i]?=some o->∃v,S (ps P ops i+1)=eV (S<|ps P ops i) o.dst v /\
   ((bR ops (S<|ps P ops i) o=true/\nA P callA lo (bT P ops true i) o (S<|ps P ops i) (R<|ps P ops i)=some (v,R<|ps P ops i+1)) \/
    (bR ops (S<|ps P ops i) o=false/\v=undef/\R (ps P ops i+1)=R (ps P ops i))):=by
  intro i o u;have g:i<ops.length:=(List.getElem?_eq_some_iff.1 u).1;have⟨o',l0,d⟩:=m0 (ps P ops i) i (B i g).2;rw[u]at l0;cases l0;exact lZ d
 have D:DC P callA base lo nt ops S R φ:=by
  refine⟨B,g0,N,S0,?_,?_,fW H0,s5,s7,s8,s9,?_⟩
  .intro m Z1 id c r0 G Y
   have⟨w0,w',a',q1,q2,q3,q4,q5⟩:=p2 m byO;have⟨q,G⟩:=G;exact q5.2 id c q G Y
  .intro i o u
   have⟨v,_,d⟩:=N i o u;have g:i<ops.length:=(List.getElem?_eq_some_iff.1 u).1;rcases d with ⟨_,d⟩|⟨_,_,d⟩
   .unfold nA at d
    cases s:resolve P o.op with
    | mk o0 xs=>
    rw[s]at d;cases o0 with
    | l l=>simp[aa₀,ad₀]at d;have⟨_,_,_,e⟩:=d;rw[<-e];exact Same.refl _ _
    | h h=>exact uP z1 (S0 _<|Nat.le_of_lt (B i g).1).1 d
   .rw[d];exact Same.refl _ _
  .intro i j g Z w2 hk z2
   have⟨m1,m2,m3⟩:=H2 i j g Z w2 hk z2;refine⟨m1,m2,λx2=>?_⟩;have⟨m4,m5⟩:=m3 x2;refine⟨m4,λid r0 hx=>?_⟩;have u:ops[i]?=some ops[i]:=bc₀ g;have⟨v,_,d⟩:=N i _ u;rcases d with ⟨_,d⟩|⟨_,_,d⟩
   .unfold nA at d
    rcases m5 with ⟨hr,o',l0,Y⟩|F
    .rw[u]at l0;cases l0
     unfold gk at Y;cases s:resolve P ops[i].op with
     | mk o0 xs=>
     rw[s]at Y d;cases o0 with
     | l l=>simp at Y
     | h h=>
      cases h<;>simp at Y;simp[cG]at d;have A2:bT P ops true i=true:=by simp[bT,hr]
      rw[A2]at d;cases r2:xs.map (ay<|S<|ps P ops i)with
      | nil=>rw[r2]at d;simp[Abs.hsem]at d
      | cons f r=>
       rw[r2]at d;cases f<;>try (simp[Abs.hsem]at d;done)
       rename_i fn first cap
       cases fn<;>try (simp[Abs.hsem]at d;done)
       simp[Abs.hsem,if_true]at d;exact(z1 _ _ _ _ _ _ (Nat.le_refl _) d).2 id r0 r0
    .
     have⟨x,y,U,Z0,hd⟩:=X0 (i,j) F;simp only at U Z0;have st:=L2 (i,j) F;simp[U,Z0]at st;rw[<-e3]at hd;rw[uv s1 m0 g0 s7 g (B i g).1 st.1,uv s1 m0 g0 s7 Z (B j Z).1 st.2,hx y Z0]at hd;have o1:gk P ops[i]=false:=by
      simp only[fZ,if_true,List.mem_flatMap,List.mem_range]at F;have⟨i',Q2,hp⟩:=F;split at hp
      next c0=>
       simp[List.mem_map,ad₀]at hp;obtain⟨_,_,rfl,_⟩:=hp;simp[ac₀,Bool.not_eq_true']at c0;simpa[u]using c0.2
      .simp at hp
     cases s:resolve P ops[i].op with
     | mk o0 xs=>
     rw[s]at d;cases o0 with
     | l l=>simp[aa₀,ad₀]at d;have⟨_,_,_,e⟩:=d;rw[<-e]
     | h h=>
      have y0:h.isCall=false:=by
       unfold gk at o1;rw[s]at o1;cases h<;>simp at o1<;>first|rfl|exact(DR s).elim
      have B2:cG (bT P ops true i) h=h:=by cases h<;>first|rfl|simp[HOp.isCall]at y0
      simp[B2]at d;refine(qI y0 d).2.1 id r0 λz hz=>?_;have F2:z=ay (S<|ps P ops i) x:=by
       simp[cN,u,s]at U;cases xs with
       | nil=>simp at U
       | cons x' r=>simp at U hz;rw[<-hz,U]
      rw[F2];rcases hd with hd|hd
      .rw[hd];simp
      .exact hd
   .rw[d]
 have n0:ops.toArray.size=ops.length:=by simp
 have G2:∀(A:Nat) (b:Array Bool) (a1:Act) (w1:World),b.size=ops.length->((List.range ops.length).filter λi=>!b.getD i true).length<=A ->
   (∃p ψ Φ,JD ds P base lo nt ops S R φ { w with drawn:=w.drawn+1 } (λj=>b.getD j false=true) a1 w1 p ψ Φ)->wpAny P .any ops.toArray Q A b a1 w1:=by
  intro A;have u1:∀(b:Array Bool),b.size=ops.length->Region.ready .any ops.toArray b=[]->∀i,i<ops.length->b.getD i false=true:=by
   intro b M I i
   induction i using Nat.strongRecOn with
   | _ i ih=>
    intro g;refine Decidable.byContradiction λa2=>?_;have u:ops[i]?=some ops[i]:=bc₀ g;have x0:i ∈ Region.ready .any ops.toArray b:=by
     unfold Region.ready;rw[n0];refine List.mem_filter.2 ⟨by simpa using g,?_⟩;have e0:i<b.size:=byO;have hf:b.getD i true=false:=by
      simp[at₀,Array.getElem?_eq_getElem e0,aq₀]at a2 ⊢;simpa using a2
     simp only[hf,Bool.not_false,aj₀,u,Option.map_some,aq₀,Bool.true_and,Array.all_eq_true_iff_forall_mem,ar₀,Bool.not_eq_true'];intro e he;cases hb:Region.binds .any e with
     | false=>exact .inl rfl
     | true=>
      have X1:=s6 i _ u e (by simpa using he) hb;exact .inr<|ih e.on X1 byO
    rw[I]at x0;simp at x0
  have x1:∀(b:Array Bool) (a1:Act) (w1:World),b.size=ops.length->(∃p ψ Φ,JD ds P base lo nt ops S R φ { w with drawn:=w.drawn+1 } (λj=>b.getD j false=true) a1 w1 p ψ Φ)->Region.ready .any ops.toArray b=[]->Q .normal a1 w1:=by
   intro b a1 w1 M ⟨p,ψ,Φ,J⟩ I;have b0:=u1 b M I;have s0:∀i,i<ops.length->kd P ops i=3->p<=ps P ops i->ops.length<=ps P ops i:=by
    intro i g k0 S2;have:=(J.mov i g k0).1<|b0 i g;omega
   have g2:=J.at_level D s1 J.ple (Nat.le_refl _) s0 λi g _ _ _=>b0 i g;rw[<-e3,<-e4]at hK;refine hK a1 w1 (Φ.below (R ops.length).length) ⟨J.tsz,λt=>?_,J.tdef⟩ ?_
   .refine((S0 ops.length<|Nat.le_refl _).2.1 t).below<|J.tmp t ops.length (Nat.le_refl _) λj o Z _=>?_
    have L1:j<ops.length:=(List.getElem?_eq_some_iff.1 Z).1;exact⟨λ_=>(B j L1).1,λ_=>b0 j L1⟩
   .have W1:=D.len_le s1 (Nat.zero_le ops.length)<|Nat.le_refl _
    refine Eff.of_drawn (n:=w.drawn+1) ⟨λi q G=>?_,g2,⟨W1,λi c q G Y=>?_⟩,J.size,J.keep,λi q h0 G=>J.fresh i q h0<|Map.below_le _ _ i q G,J.os,J.out⟩
    .have:=hH.dom i q G
     unfold Map.below;rw[if_pos byO];exact J.le0 i q G
    .exact D.keeps ops.length (Nat.le_refl _) i c (hH.dom i q G) ⟨q,G⟩ Y
  induction A with
  | zero=>
   intro b a1 w1 M A1 hJ;have z0:((List.range ops.length).filter λi=>!b.getD i true)=[]:=List.eq_nil_of_length_eq_zero byO;have I:Region.ready .any ops.toArray b=[]:=by
    unfold Region.ready;rw[n0,List.filter_eq_nil_iff];intro i g Y;rw[List.filter_eq_nil_iff]at z0;have:=z0 i g;simp only[ac₀]at Y;exact this Y.1
   exact⟨I,x1 b a1 w1 M hJ I⟩
  | succ A ih=>
   intro b a1 w1 M A1 hJ;refine⟨λI=>x1 b a1 w1 M hJ I,λi V=>?_⟩;have⟨p,ψ,Φ,J⟩:=hJ;unfold Region.ready at V;rw[n0]at V;have⟨G1,V⟩:=List.mem_filter.1 V;have g:i<ops.length:=by simpa using G1
   have u:ops[i]?=some ops[i]:=bc₀ g;simp only[ac₀,Bool.not_eq_true',aj₀,u,Option.map_some,aq₀,Array.all_eq_true_iff_forall_mem,ar₀]at V;have⟨r1,q0⟩:=V;have e0:i<b.size:=byO;have W:¬ b.getD i false=true:=by
    simp[at₀,Array.getElem?_eq_getElem e0,aq₀]at r1 ⊢;simp[r1]
   have C:∀j ∈ bf ops i,b.getD j false=true:=by
    intro j Z;have⟨e,he,hb,p1⟩:=s5 i _ u j Z;have B1:=(q0 e (by simpa using he)).resolve_left (by simp[hb]);have N2:=s6 i _ u e he hb;rcases p1 with rfl|p1
    .exact B1
    .exact J.down e.on j B1 byO p1
   have u2:∀j,((b.setIfInBounds i true).getD j false=true)↔(b.getD j false=true\/j=i):=by
    intro j;simp[at₀,Array.getElem?_setIfInBounds];by_cases b1:i=j
    .subst b1;simp[e0]
    .simp[b1];intro e;exact absurd e.symm b1
   have y1:(λj=>(b.setIfInBounds i true).getD j false=true)=(λj=>b.getD j false=true\/j=i):=funext λj=>propext<|u2 j;have T0:((List.range ops.length).filter λk=>!(b.setIfInBounds i true).getD k true).length<=A:=by
    have X1:((List.range ops.length).filter λk=>!(b.setIfInBounds i true).getD k true).length<((List.range ops.length).filter λi=>!b.getD i true).length:=by
     have sub:((List.range ops.length).filter λk=>!(b.setIfInBounds i true).getD k true)=(((List.range ops.length).filter λi=>!b.getD i true).filter λk=>!(k==i)):=by
      rw[List.filter_filter];refine List.filter_congr λk hk=>?_;simp[at₀,Array.getElem?_setIfInBounds];by_cases k0:i=k
      .subst k0;simp[e0]
      .have:(k==i)=false:=by simp;exact λe=>k0 e.symm
       simp[k0,this]
     rw[sub];refine List.length_filter_lt_length_iff_exists.2 ⟨i,List.mem_filter.2 ⟨G1,by simp[r1]⟩,by simp⟩
    omega
   have K:∀a' w' p' X O,JD ds P base lo nt ops S R φ { w with drawn:=w.drawn+1 } (λj=>b.getD j false=true\/j=i) a' w' p' X O->wpAny P .any ops.toArray Q A (b.setIfInBounds i true) a' w':=by
    intro a' w' p' X O J';exact ih _ a' w' (by simp[M]) T0 ⟨p',X,O,by rw[y1];exact J'⟩
   unfold wpOp;simp[aj₀,u];rw[J.want D u C W];cases hw:bR ops (S<|ps P ops i) ops[i]with
   | false=>
    simp[ah₀,if_false];by_cases hk:kd P ops i=3
    .have⟨X,J'⟩:=(J.move D L R0 hH.dom s1 u hk C W).2 hw
     exact K _ _ _ _ _ J'
    .exact K _ _ _ _ _ (J.idle D s1 u hk C W hw)
   | true=>
    simp[if_true];left;by_cases hk:kd P ops i=3
    .exact(J.move D L R0 hH.dom s1 u hk C W).1 hw λa' w' X O J'=>K a' w' _ X O J'
    .by_cases T1:kd P ops i=2
     .exact J.make D s1 u T1 C W hw λa' w' O J'=>K a' w' p ψ O J'
     .have S1:kd P ops i=0\/kd P ops i=1:=by
       have:=Ba (P:=P) (o:=ops[i]);rw[D.kd_at u]at hk T1 ⊢;omega
      exact J.light D s1 u S1 C W hw λa' J'=>K a' w1 p ψ Φ J'
 refine G2 ops.length _ a _ (by simp) (Nat.le_trans (List.length_filter_le _ _) (by simp)) ⟨0,φ,φ,?_⟩;have p0:∀j,¬ ((Array.replicate ops.length false).getD j false=true):=by
  intro j;simp[at₀,Array.getElem?_replicate];split<;>simp
 refine⟨λi j h=>absurd h<|p0 i,Nat.zero_le _,λi g hk=>⟨λh=>absurd h<|p0 i,λh=>byO⟩,λi g hk h=>byO,hH.congr rfl,Map.le_refl φ,λi q G=>hH.plc i q G,λid q G=>.inl G,λk o h1 h2 h3=>absurd h3<|p0 k,hT.size,hT.defers,λt m Z1 W0=>?_,
  Map.le_refl φ,Nat.le_refl _,λ_ _ _=>rfl,λi q h0 G=>by rw[h0]at G;simp at G,rfl,rfl⟩
 have N1:=D.keepT s1 (t:=t) m 0 byO (λj o Z hd _=>by
  refine Decidable.byContradiction λY=>?_;exact p0 j<|(W0 j o Z hd).2 byO)
 rw[Nat.zero_add]at N1;rw[N1];exact hT.rel t
theorem Dk{d:List Oper}{ol:Oper}{Q p:Exit->Act->World->Prop}(q:∀e a w,e≠.normal->p e a w->Q e a w)(D:∀o ∈ d,∀j b,o.guard=some (j,b)->j<d.length){i:Nat}(y:i<d.length){K m:Act->World->Prop}(t:∀a w,K a w->m a w){a:Act}{w:World}
  (h:wpOp P d.toArray p i K a w):wpOp P (d++[ol]).toArray Q i m a w:=by
 have z:d[i]?=some d[i]:=List.getElem?_eq_getElem y;have k:(d++[ol])[i]?=some d[i]:=by grind
 unfold wpOp at h ⊢;simp[aj₀,z]at h;simp[aj₀,k];have B:Region.wanted d[i] (yielded (d++[ol]).toArray a.tmps)=Region.wanted d[i] (yielded d.toArray a.tmps):=by
  grind[Region.wanted,yielded]
 rw[B];split at h
 next A=>
  rw[if_pos A];refine h.imp (λh=>?_) (λ⟨s,f,l,g⟩=>⟨s,f,l,q _ _ _ (by simp) g⟩);unfold Oper.wp at *;generalize (execOp a.eval d[i]).run P w=r at *;cases r with
  | ok n w'=>
   cases n<;>simp[Oper.upon]at h ⊢<;>
    first
     | exact t _ _ h
     | exact Calls.mono h (λe C u=>by
       cases e with
       | returned v=>simp_all
       | panicked c=>simp_all
       | outgrown=>have⟨f,l,g⟩:=u;exact⟨f,l,q _ _ _ (by simp) g⟩)
     | grind[Rows.mono]
  | halt x w'=>cases x<;>simp[Oper.upon]at h ⊢<;>first|exact h|simp_all
 simp_all
theorem An{d:List Oper}{ol:Oper}{Q v:Exit->Act->World->Prop}(T:∀e a w,e≠.normal->v e a w->Q e a w)(U:∀o ∈ d,∀j b,o.guard=some (j,b)->j<d.length)
  (y:∀(i:Nat) (o:Oper),(d++[ol])[i]?=some o->∀e ∈ o.after.toList,Region.binds .any e=true->e.on<i)
  (G:∀(i:Nat) (o:Oper),(d++[ol])[i]?=some o->∀j ∈ bf (d++[ol]) i,∃e ∈ o.after.toList,Region.binds .any e=true/\(e.on=j\/j ∈ bf (d++[ol]) e.on))
  (K:∀j,j<d.length->j ∈ bf (d++[ol]) d.length)
  (s:∀a w,v .normal a w->wpOp P (d++[ol]).toArray Q d.length (Q .normal) a w):∀(g:Nat) (c:Array Bool) (a:Act) (w:World),c.size=d.length->(∀i,c.getD i false=true->∀j ∈ bf (d++[ol]) i,c.getD j false=true) ->
   wpAny P .any d.toArray v g c a w->wpAny P .any (d++[ol]).toArray Q (g+1) (c.push false) a w:=by
 have N:(d++[ol]).length=d.length+1:=by simp
 have J:∀(c:Array Bool),c.size=d.length->∀i,(c.push false).getD i false=c.getD i false:=by
  intro c m i;simp[at₀,Array.getElem?_push]
  grind
 have u:∀(c:Array Bool),c.size=d.length->∀i,i<d.length->(c.push false).getD i true=c.getD i true:=by
  grind
 have B:∀(c:Array Bool),c.size=d.length->∀i,i<d.length->(i ∈ Region.ready .any (d++[ol]).toArray (c.push false)↔i ∈ Region.ready .any d.toArray c):=by
  grind[mem_ready]
 have t:∀(c:Array Bool),c.size=d.length->(∀i,c.getD i false=true->∀j ∈ bf (d++[ol]) i,c.getD j false=true)->d.length ∈ Region.ready .any (d++[ol]).toArray (c.push false)->∀j,j<d.length->c.getD j false=true:=by
  intro c m C A j M;have⟨_,o,z,p⟩:=mem_ready.1 A
  grind
 have some:∀(c:Array Bool),c.size=d.length->Region.ready .any (d++[ol]).toArray (c.push false)≠[]:=by
  intro c m l;have I:∀i,i<d.length+1->(c.push false).getD i false=true:=by
   intro i
   induction i using Nat.strongRecOn with
   | _ i O=>
    intro q;refine Decidable.byContradiction λX=>?_;have z:(d++[ol])[i]?=some (d++[ol])[i]:=bc₀ (by simp;omega)
    grind[mem_ready]
  have:=I d.length byO
  grind
 have R:∀(g:Nat) (c:Array Bool) (a:Act) (w:World),c.size=d.length->(∀i,c.getD i false=true->∀j ∈ bf (d++[ol]) i,c.getD j false=true)->d.length ∈ Region.ready .any (d++[ol]).toArray (c.push false)->wpAny P .any d.toArray v g c a w ->
   wpOp P (d++[ol]).toArray Q d.length (wpAny P .any (d++[ol]).toArray Q g<|(c.push false).setIfInBounds d.length true) a w:=by
  intro g c a w m C A h;have F:=t c m C A;have l:Region.ready .any d.toArray c=[]:=by
   rw[List.eq_nil_iff_forall_not_mem]
   grind[mem_ready]
  have D:v .normal a w:=by
   cases g with
   | zero=>exact h.2
   | succ f=>exact h.1 l
  refine wpOp_mono (λa w Z=>wpAny_done ?_ Z g)<|s a w D;rw[List.eq_nil_iff_forall_not_mem];intro i q;have⟨S,o,z,_⟩:=mem_ready.1 q;have r:i<d.length+1:=by
   grind
  by_cases L:i=d.length
  .simp_all
  .have h1:=F i byO
   rw[getD_set_ne true λe=>L e.symm,u c m i byO]at S
   grind
 have n:∀(c:Array Bool),c.size=d.length->∀i,i ∈ Region.ready .any (d++[ol]).toArray (c.push false)->i<d.length\/i=d.length:=by
  grind[mem_ready]
 intro g
 induction g with
 | zero=>
  intro c a w m C h;refine⟨λl=>absurd l<|some c m,λi q=>?_⟩;rcases n c m i q with y|rfl
  .have:=(B c m i y).1 q
   rw[h.1]at this;simp at this
  grind
 | succ g O=>
  intro c a w m C h;refine⟨λl=>absurd l<|some c m,λi q=>?_⟩;rcases n c m i q with r|rfl
  .have A:=(B c m i r).1 q
   refine Dk T U r (λa w W=>?_)<|h.2 i A;have e:(c.push false).setIfInBounds i true=(c.setIfInBounds i true).push false:=by
    apply Array.ext_getElem?;intro j;simp[Array.getElem?_setIfInBounds,Array.getElem?_push,Array.size_push,Array.size_setIfInBounds];by_cases V:i=j
    all_goals grind
   rw[e];refine O _ a w (by simp[m]) (λk H j M=>?_) W;by_cases x:k=i
   .subst x
    have⟨_,o,z,p⟩:=mem_ready.1 q;rw[aj₀]at z;have⟨e,L,hb,Y⟩:=G k o z j M
    grind[getD_set_true]
   .rw[getD_set_ne false λe=>x e.symm]at H
    grind[getD_set_true]
  grind
theorem qO{a:List Oper}{ol:Oper}{r r':Nat->Bool}(f:∀o ∈ a,∀j b,o.guard=some (j,b)->j<a.length)(k:∀i,i<a.length->r i=r' i):∀(l:List Nat),(∀i ∈ l,i<a.length)->∀T H,bZ P callA lo (a++[ol]) r l T H=bZ P callA lo a r' l T H
 | [],_,T,H=>rfl
 | i::l,e,T,H=>by
  have d:=e i (by simp);have h:(a++[ol])[i]?=a[i]?:=ax₀ d;have c:a[i]?=some a[i]:=bc₀ d;simp[bZ,h,c];have n:bR (a++[ol]) T a[i]=bR a T a[i]:=by
   grind[bR]
  have m:bV P callA lo (a++[ol]) (r i) a[i] T H=bV P callA lo a (r' i) a[i] T H:=by
   grind[bV]
  rw[m];split
  .exact qO f k l (λj g=>e j (by simp[g])) _ _
  .rfl
theorem IW(hm:P.follows .mixedOrders=true){d:CallR}(G:dK d.ret)(g:fP P base P.globals.size d.ret)(L:qv P base P.globals.size d.pan):nD P d base:=by
 refine⟨λlo Q id nt ops ds φ H w T a B N O R S U C H' V W h9=>wp_region_any hm ?_,λlo Q id nt ops ds φ H w T a B N O R S U p C H' V W=>wp_region_any hm ?_⟩
 .have:=xZ G g lo Q nt ops ds φ H w T a B N O R S U C H' V W h9
  simpa using this
 .rcases V with ⟨h,_⟩|⟨_,hl,H1,o,hh,xs,y,t,hw,s,hsem⟩
  .cases h
  unfold pQ at hl;simp only[ac₀,beq_iff_eq,List.all_eq_true,List.mem_range,List.isEmpty_iff,Bool.not_eq_true',List.contains_eq_mem,af₀]at hl;have⟨_,e0,I,g0,J,b0,k0,F,X⟩:=hl;have⟨s1,s2,s3,s4,s5,s6,s7,s8,s9,l0,m0⟩:=lM R;have⟨t1,t2,t3,t4,_⟩:=lM I;generalize f:ops.dropLast=c at *;have l:ops≠[]:=by rintro rfl;simp at y
  have n:ops=c++[o]:=by
   have h0:=List.dropLast_concat_getLast l;have B:ops.getLast l=o:=by
    have K:c.length=ops.length-1:=by rw[<-f];simp
    rw[List.getLast_eq_getElem];rw[K]at y;rw[bc₀ (by have:=List.length_pos_iff.2 l;omega)]at y;simpa using y
   rw[f,B]at h0;exact h0.symm
  have hg:∀o ∈ c,∀j b,o.guard=some (j,b)->j<c.length:=by
   intro o y j b e;have:=X o y;rw[e]at this;simpa using this
  subst n;have z:opsOK P nt c=true:=List.all_eq_true.2 λx hx=>List.all_eq_true.1 O x (by simp[hx]);rw[qO (r':=bT P c true) hg b0 _ (λi Y=>by
   have Z:i ∈ ord P c:=Y;exact t4 i Z)]at t
  have v:nG P c true C:=by
   intro q hq;rw[J]at hq;simp at hq
  have k:∀a' w' A,Tmps ds A nt C a'->Eff φ base P.globals.size lo H w A H1 w'->wpOp P (c++[o]).toArray Q c.length (Q .normal) a' w':=by
   intro a' w' A u m;have⟨hd,hop⟩:=fW O o (by simp);unfold wpOp;simp[aj₀,y];rw[m9 u o,hw];simp[if_true];left;rw[s]at hop;refine y5 L B (Nat.le_trans N m.keeps.1) m.rel s (λx hx=>u.eval m.rel.glob x (by
    have:=hop x hx;cases x<;>simp[j2,kj]at this ⊢<;>exact this)) hsem λcv M c0 r hv=>?_
   exact W a' c0 M cv (u.mono r.le) (Eff.trans m r) hv
  have:=xZ G g lo (λe a w=>match e with | .normal=>wpOp P (c++[o]).toArray Q c.length (Q .normal) a w|e=>Q e a w) nt c ds φ H w T a B N z I S U C H1 t v k;have D:=An (Q:=Q) (ol:=o) (λe a w l h=>by cases e<;>first|exact h|exact absurd rfl l) hg s6 s5 F (λa w h=>h) c.length _ a _ (by simp) (λi Y=>by
   exfalso;revert Y;simp[at₀,Array.getElem?_replicate];split<;>simp) this
  have e:(Array.replicate c.length false).push false=Array.replicate (c++[o]).length false:=by
   simp[Array.replicate_succ]
  rw[e]at D;simpa using D
theorem sound(b:P.follows .mixedOrders=true){cp:FuncId->Option CF}(a:nc P cp)(base:Nat):∀n,RunOK P base P.globals.size<|run cp n:=
 Gw (λn h=>IW b (Gx cp n) h.toRet h.toPan) a
end
end Go.Abs
