/- Lemmas. -/
import Derived.Test.YtgiojnobcjnibaaGreatDoorH5
set_option linter.all false
namespace Go.Abs
section
variable {ds:List Deferred}{P:Program}{callA:dd}{base lo nt:Nat}{ops:List Oper}{Ts:Nat->Raw}{Hs:Nat->Heap}{φ0:Map}{w0:World}{A:Nat->Prop}{a:Act}{w:World}{p:Nat}{ψ Φ:Map}
theorem Dp{e:HOp}{vs:XV}{H H':Heap}{v:Value}(f:e.isAlloc=true)(d:Abs.hsem callA lo e vs H=some (v,H')):∃c,H'=H++[some c]:=by
 cases e<;>simp[HOp.isAlloc]at f
 .cases vs<;>simp[hsem]at d
  grind
 .rcases vs with _|⟨a,_|⟨b,r⟩⟩<;>simp[hsem]at d
  grind
 .unfold Abs.hsem at d
  grind
 .grind[hsem,Option.map_eq_some_iff]
 .rcases vs with _|⟨a,_|⟨b,r⟩⟩<;>try (simp[Abs.hsem]at d)
  .grind
theorem DC.lens(D:DC P callA base lo nt ops Ts Hs φ0)(c:(ord P ops).length=ops.length):∀k m,m+k<=ops.length->(Hs m).length<=(Hs<|m+k).length:=by
 intro k
 induction k with
 | zero=>simp_all
 | succ k f=>
  intro m d;have⟨i,b,e⟩:=D.at_pos (m:=m+k) byO c;have:=(D.same i _<|bc₀ b).1
  grind
theorem DC.len_le(D:DC P callA base lo nt ops Ts Hs φ0)(d:(ord P ops).length=ops.length){m b:Nat}(h:m<=b)(c:b<=ops.length):(Hs m).length<=(Hs b).length:=by obtain⟨k,rfl⟩:∃k,b=m+k:=⟨b-m,byO⟩;exact D.lens d k m c
theorem DC.made(D:DC P callA base lo nt ops Ts Hs φ0){i:Nat}{o:Oper}(d:ops[i]?=some o)(f:kd P ops i=2)(l:bY ops (Ts<|ps P ops i) o=true) :
  ∃v b xs c,an P o.op=some (.h b,xs)/\resolve P o.op=(.h b,xs)/\b.isAlloc=true/\Abs.hsem callA lo b (xs.map<|ah<|Ts<|ps P ops i) (Hs<|ps P ops i)=some (v,Hs<|ps P ops i+1) /\
   Hs (ps P ops i+1)=Hs (ps P ops i)++[some c]/\Ts (ps P ops i+1)=fZ (Ts<|ps P ops i) o.dst v:=by
 have⟨v,j,e⟩:=D.step i o d;rcases e with ⟨_,k⟩|⟨g,_,_⟩
 .rw[D.kd_at d]at f
  grind[tv,nC,we,Dp]
 simp_all
theorem DC.pos_of_len(D:DC P callA base lo nt ops Ts Hs φ0)(d:(ord P ops).length=ops.length){m b:Nat}(c:m<=ops.length)(h:(Hs m).length<(Hs b).length):m<b:=by grind[len_le]
theorem DC.made_ne(D:DC P callA base lo nt ops Ts Hs φ0)(y:(ord P ops).length=ops.length){i k:Nat}{o q:Oper}(l:ops[i]?=some o)(n:kd P ops i=2)(t:bY ops (Ts<|ps P ops i) o=true)
  (b:ops[k]?=some q) (d:kd P ops k=2) (g:bY ops (Ts<|ps P ops k) q=true) (m:i≠k):(Hs<|ps P ops i).length≠(Hs<|ps P ops k).length:=by
 have j:i<ops.length:=(List.getElem?_eq_some_iff.1 l).1;have e:k<ops.length:=(List.getElem?_eq_some_iff.1 b).1;have⟨_,_,_,c,_,_,_,_,u,_⟩:=D.made l n t;have⟨_,_,_,c',_,_,_,_,v,_⟩:=D.made b d g;have f:ps P ops i≠ps P ops k:=by
  have x:=(D.pos i j).2
  grind[pos]
 have r:=(D.pos i j).1;have s:=(D.pos k e).1;rcases Nat.lt_or_gt_of_ne f with h|h
 all_goals grind[len_le]
theorem JD.down'(J:JD ds P base lo nt ops Ts Hs φ0 w0 A a w p ψ Φ){i:Nat}(b:∀j ∈ bf ops i,A j):∀x j,(A x\/x=i)->x<ops.length->j ∈ bf ops x->A j\/j=i:=by grind[down]
theorem HRel.ext{w':World}{G:Nat}{H:Heap}(h:HRel ψ base G H w)(k:w.heap.size<=w'.heap.size)(e:∀b,b<w.heap.size->w'.heap[b]?=w.heap[b]?):HRel ψ base G H w':=
 ⟨λi c g=>by
  have⟨p,d,f⟩:=h.cell i c g;exact⟨p,d,by rw[e _<|h.plc i p d];exact f⟩,h.inj,h.dom,h.glob,λi p j=>bd₀ (h.plc i p j) k⟩
theorem JD.reader_block(D:DC P callA base lo nt ops Ts Hs φ0)(n:(ord P ops).length=ops.length)(J:JD ds P base lo nt ops Ts Hs φ0 w0 A a w p ψ Φ){i:Nat}{o:Oper}(ho:ops[i]?=some o)(hk:kd P ops i=1)(X:∀j ∈ bf ops i,A j)(M:¬ A i)
  {x:Operand} (hx:bH P ops i=some x) {id:Nat} (hb:aT (ah (Ts<|ps P ops i) x)=some id) {c:XV} (hc:(Hs<|ps P ops i).get id=some c) {q:Place} (Y:Φ id=some q) :
  (q.k=0/\∃arr ty B,w.heap[q.b]?=some (.cells arr ty B)/\arr.size=q.s+q.n/\c.length<=q.n/\∀(j:Nat) v,c[j]?=some v->∃u,arr[q.s+j]?=some u/\VRel Φ v u)\/Odd Φ q.k c w.heap[q.b]?:=by
 have H:i<ops.length:=(List.getElem?_eq_some_iff.1 ho).1;have j0:=(D.pos i H).1;have c0:=Heap.get_lt hc;have Q:∀j,j<ops.length->kd P ops j=3->p<=ps P ops j->ps P ops i<=ps P ops j:=by
  intro j f b s;have g0:¬ A j:=λh=>by have:=(J.mov j f b).1 h;omega
  grind[DC.bpos,DC.mov]
 rcases J.dom id q Y with g|⟨k,ok,q1,q2,q3,q4,q5,q6⟩
 .have l:=J.rel.dom id q g
  have t:(Hs p).get id=some c:=by
   by_cases l0:p<=ps P ops i
   .obtain⟨d,T⟩:∃d,ps P ops i=p+d:=⟨ps P ops i-p,byO⟩
    have:=(D.level n p d byO λj f b s=>by simp_all).2.1 id l
    simp_all
   .
    have O:∀d,ps P ops i+d<=p->(Hs<|ps P ops i+d).get id=some c:=by
     intro d
     induction d with
     | zero=>simp_all
     | succ d Z=>
      intro T;have Z:=Z byO;have N:=J.ple;have⟨j,f,hp⟩:=D.at_pos (m:=ps P ops i+d) byO n;have h0:ops[j]?=some ops[j]:=bc₀ f;rw[<-Nat.add_assoc];by_cases b:kd P ops j=3
      .have G:A j:=(J.mov j f b).2 byO
       have K:j≠i:=λe=>M<|e▸G;have r:¬ (j ∈ bf ops i\/i ∈ bf ops j):=by
        rintro(h|h)
        .have:=D.bpos i H j h;omega
        grind[down]
       have:=((D.mov j i f H K b r).2.2 hk).2 id (by simp_all[Heap.get_lt]) (λy hy=>by simp_all)
       simp_all
      .
       have lv:=D.level n (ps P ops i+d) 1 byO (λj' I U W=>by
        refine Decidable.byContradiction λS=>?_;have e:ps P ops j'=ps P ops i+d:=byO;have h1:=(D.pos j' I).2
        grind[DC.pos])
       grind[Heap.get_lt]
    have:=O (p-ps P ops i) byO
    grind
  obtain⟨q',z,⟨e0,arr,ty,B,F,e3,e4,e5,_⟩|F⟩:=J.rel.cell id c t
  .rw[g]at z;cases z
   exact .inl ⟨e0,arr,ty,B,F,e3,e4,λj v hv=>by have⟨u,hu,hr⟩:=e5 j v hv;exact⟨u,hu,hr.mono J.le⟩⟩
  .rw[g]at z;cases z
   exact .inr<|F.mono J.le
 .have⟨q',arr,ty,B,C,⟨a2,ak⟩,a3,a4,⟨c',R,a6,a7⟩,_,_⟩:=J.al k ok q1 q2 q3 q4 q5
  rw[<-q6]at C R;rw[Y]at C;cases C;have L:k<ops.length:=(List.getElem?_eq_some_iff.1 q1).1;have b0:=(D.pos k L).1;have V:ps P ops k<ps P ops i:=D.pos_of_len n byO byO;have a0:c'=c:=by
   obtain⟨d,T⟩:∃d,ps P ops i=ps P ops k+1+d:=⟨ps P ops i-(ps P ops k+1),byO⟩;have:=(D.level n (ps P ops k+1) d byO λj f b s=>by grind).2.1 id<|Heap.get_lt R
   simp_all
  simp_all
theorem JD.light(D:DC P callA base lo nt ops Ts Hs φ0)(hn:(ord P ops).length=ops.length)(J:JD ds P base lo nt ops Ts Hs φ0 w0 A a w p ψ Φ){i:Nat}{o:Oper}(n:ops[i]?=some o)(hk:kd P ops i=0\/kd P ops i=1)(f:∀j ∈ bf ops i,A j)(m:¬ A i)
  (hw:bY ops (Ts<|ps P ops i) o=true) {K:Act->World->Prop} (Z:∀a',JD ds P base lo nt ops Ts Hs φ0 w0 (λj=>A j\/j=i) a' w p ψ Φ->K a' w) {Q:Exit->Act->World->Prop}:o.wp P a w K Q:=by
 have hi:i<ops.length:=(List.getElem?_eq_some_iff.1 n).1;have g:=hk;rw[D.kd_at n]at g;have⟨l,xs,S,r2⟩:=tw g;have⟨v,X,Y⟩:=D.step i o n;rcases Y with ⟨_,t⟩|⟨j0,_,_⟩
 .unfold nC at t
  rw[wg S]at t;simp[aa₀,ad₀]at t;obtain⟨v',h,rfl,_⟩:=t;have e:=J.evalOpd D n f m;rw[S]at e;have R:an P o.op=some (.l l,xs):=by
   unfold resolve at S;cases h0:an P o.op with
   | none=>simp_all
   | some q=>simp_all
  have run:∃z,(execOp a.eval o).run P w=.ok (.value z) w/\VRel Φ v' z:=by
   cases d:gG l with
   | false=>
    rw[rL d _ _ []]at h;exact pN R e (H:=[]) (λi c p hc=>by grind[Heap.get]) h
   | true=>
    have b0:kd P ops i=1:=by grind[DC.kd_at]
    have G:∃x r,xs=x::r:=by
     cases xs with
     | nil=>cases l<;>simp[gG]at d<;>simp[aG]at h
     | cons x r=>simp_all
    obtain⟨x,r,rfl⟩:=G;have a0:bH P ops i=some x:=by grind[bH]
    cases hb:aT (ah (Ts<|ps P ops i) x)with
    | none=>
     have:=wO d _ _ [] h (λy id hy I=>by simp_all);exact pN R e (H:=[]) (λi c p hc=>by grind[Heap.get]) this
    | some id=>
     let s:Heap:=List.replicate id none++[match (Hs<|ps P ops i).get id with|some c=>some c|none=>none]
     have T:s.get id=(Hs<|ps P ops i).get id:=by
      grind[Heap.get_append_right]
     have g0:∀k c,s.get k=some c->k=id:=by
      grind[Heap.get]
     have C:=wO d _ _ s h (λy l0 hy I=>by simp_all);refine pN R e (H:=s) (λk c q c0 e0=>?_) C
     grind[reader_block]
  have⟨z,V,W⟩:=run;unfold Oper.wp;rw[V];apply Z _;have⟨t1,t2,t3⟩:=J.put D hn n m (Map.le_refl Φ) X W;have U:∀j,(kd P ops j=3\/kd P ops j=2)->((A j\/j=i)↔A j):=by
   grind
  exact⟨J.down' f,J.ple,λj B b=>by rw[U j<|.inl b];exact J.mov j B b,λj B b F=>.inl<|J.alc j B b F,J.rel,J.le,J.plc,
   λid q hq=>(J.dom id q hq).imp _root_.id λ⟨k,L,M,u,N,O⟩=>⟨k,L,M,u,.inl N,O⟩,
   λk L M u N O q5=>J.al k L M u ((U k<|.inr u).1 N) O q5,t1,t2,t3,J.le0,J.size,J.keep,J.fresh,J.os,J.out⟩
 simp_all
end
section
variable {ds:List Deferred}{P:Program}{callA:dd}{base lo nt:Nat}{ops:List Oper}{Ts:Nat->Raw}{Hs:Nat->Heap}{φ0:Map}{w0:World}{A:Nat->Prop}{a:Act}{w:World}{p:Nat}{ψ Φ:Map}
theorem JD.idle(D:DC P callA base lo nt ops Ts Hs φ0)(u:(ord P ops).length=ops.length)(J:JD ds P base lo nt ops Ts Hs φ0 w0 A a w p ψ Φ){i:Nat}{o:Oper}(r:ops[i]?=some o)(I:kd P ops i≠3)(c:∀j ∈ bf ops i,A j)(f:¬ A i)
  (K:bY ops (Ts<|ps P ops i) o=false):JD ds P base lo nt ops Ts Hs φ0 w0 (λj=>A j\/j=i) (a.put o.dst undef) w p ψ Φ:=by
 have⟨v,s,t⟩:=D.step i o r;rcases t with ⟨y,_⟩|⟨_,rfl,H⟩
 .simp_all
 .have⟨C,F,G⟩:=J.put D u r f (Map.le_refl Φ) s fu
  have z:∀j,kd P ops j=3->((A j\/j=i)↔A j):=by
   grind
  refine⟨J.down' c,J.ple,λj e b=>by rw[z j b];exact J.mov j e b,λj e b g=>.inl<|J.alc j e b g,J.rel,J.le,J.plc,
   λid q x=>(J.dom id q x).imp _root_.id λ⟨k,h,l,m,d,n⟩=>⟨k,h,l,m,.inl d,n⟩,λk h l m d n B=>?_,C,F,G,J.le0,J.size,J.keep,J.fresh,J.os,J.out⟩
  rcases d with d|rfl
  .exact J.al k h l m d n B
  simp_all
theorem JD.make(D:DC P callA base lo nt ops Ts Hs φ0)(hn:(ord P ops).length=ops.length)(J:JD ds P base lo nt ops Ts Hs φ0 w0 A a w p ψ Φ){i:Nat}{o:Oper}(z:ops[i]?=some o)(hk:kd P ops i=2)(n:∀j ∈ bf ops i,A j)(r:¬ A i)
  (hw:bY ops (Ts<|ps P ops i) o=true) {K:Act->World->Prop} (hK:∀a' w' W,JD ds P base lo nt ops Ts Hs φ0 w0 (λj=>A j\/j=i) a' w' p ψ W->K a' w') {Q:Exit->Act->World->Prop}:o.wp P a w K Q:=by
 have Z:i<ops.length:=(List.getElem?_eq_some_iff.1 z).1;have c0:=(D.pos i Z).1;have e0:p<=ps P ops i:=Nat.le_of_not_lt λh=>r<|J.alc i Z hk h;have⟨v,hh,xs,c,r0,r1,r2,hs,a0,O⟩:=D.made z hk hw;have C:=J.evalOpd D z n r;rw[r1]at C;have⟨arr,ty,x,c',cv,L,e1,e2,e3,e4,e5,e6,_⟩:=Fo (P:=P) (w:=w) r0 r2 C hs;have R:c'=c:=Wx
 subst R
 let N:=(Hs<|ps P ops i).length
 let q:Place:=⟨w.heap.size,0,arr.size,0⟩
 have s:∀f,Φ N≠some f:=by
  intro f d;rcases J.dom N f d with h|⟨k,F,u,G,H,I,q5,q6⟩
  .have:=J.rel.dom N f h
   grind[DC.len_le]
  grind[DC.made_ne]
 have m:Φ.le<|Φ.set N q:=Map.le_set s q;have g:Φ.set N q N=some q:=XG
 have⟨t1,t2,t3⟩:=J.put D hn z r m O<|e6 (Φ.set N q) g;have Y:(({ w with drawn:=L }:World).alloc<|.cells arr ty x).heap=w.heap.push (.cells arr ty x):=rfl;have B:∀b,b<w.heap.size->(({ w with drawn:=L }:World).alloc<|.cells arr ty x).heap[b]?=w.heap[b]?:=by
  grind
 have t:w.heap.size<=(({ w with drawn:=L }:World).alloc<|.cells arr ty x).heap.size:=Wx
 unfold Oper.wp;rw[e1];apply hK _ _ (Φ.set N q);have nk:∀j,kd P ops j=3->((A j\/j=i)↔A j):=by
  grind
 refine⟨J.down' n,J.ple,λj S l=>by rw[nk j l];exact J.mov j S l,λj S l T=>.inl<|J.alc j S l T,J.rel.ext t B,Map.le_trans J.le m,?_,?_,?_,t1,t2,t3,Map.le_trans J.le0 m,Nat.le_trans J.size t,?_,?_,J.os,J.out⟩
 .intro id f d
  by_cases e:id=N
  .grind
  .simp[Map.set,e]at d;exact bd₀ (J.plc id f d) t
 .intro id f d
  by_cases e:id=N
  .grind
  .simp[Map.set,e]at d
   exact(J.dom id f d).imp _root_.id λ⟨k,F,u,G,H,I⟩=>⟨k,F,u,G,.inl H,I⟩
 .intro k F u G H I q5
  by_cases y:k=i
  .subst y
   rw[z]at u;cases u;refine⟨q,arr,ty,x,g,⟨rfl,rfl⟩,Xu,rfl,⟨c',by grind[Heap.get_append_right],e3,λj v hv=>?_⟩,e5,λid f d e=>?_⟩
   .grind[VRel.mono]
   .simp[Map.set]at d
    rw[if_neg e]at d;have:=J.plc id f d
    grind
  .have U:A k:=H.resolve_right y
   have⟨f,arr',V,M,X,a2,a3,a4,⟨c2,a5,a6,a7⟩,a8,a9⟩:=J.al k F u G U I q5;have b0:=J.plc _ f X;refine⟨f,arr',V,M,m _ _ X,a2,Wx,a4,⟨c2,a5,a6,λj v hv=>?_⟩,a8,λid j0 g0 e=>?_⟩
   all_goals grind[Map.set,VRel.mono]
 .grind[keep]
 .intro id f h0 d
  by_cases e:id=N
  .subst e;rw[g]at d;cases d;exact .inl J.size
  .simp[Map.set,e]at d;exact J.fresh id f h0 d
theorem JD.move(D:DC P callA base lo nt ops Ts Hs φ0)(Z:gM P base P.globals.size callA)(S0:base<=lo)(x0:∀i q,φ0 i=some q->i<(Hs 0).length)(hn:(ord P ops).length=ops.length)(J:JD ds P base lo nt ops Ts Hs φ0 w0 A a w p ψ Φ){i:Nat}{o:Oper}
  (ho:ops[i]?=some o) (hk:kd P ops i=3) (C:∀j ∈ bf ops i,A j) (N:¬ A i) :
  (bY ops (Ts<|ps P ops i) o=true->∀{K:Act->World->Prop},(∀a' w' j0 r,JD ds P base lo nt ops Ts Hs φ0 w0 (λj=>A j\/j=i) a' w' (ps P ops i+1) j0 r->K a' w')->∀{Q:Exit->Act->World->Prop},o.wp P a w K Q) /\
  (bY ops (Ts<|ps P ops i) o=false->∃j0,JD ds P base lo nt ops Ts Hs φ0 w0 (λj=>A j\/j=i) (a.put o.dst undef) w (ps P ops i+1) j0 Φ):=by
 have hi:i<ops.length:=(List.getElem?_eq_some_iff.1 ho).1;have c0:=(D.pos i hi).1;have j1:p<=ps P ops i:=Nat.le_of_not_lt λh=>N<|(J.mov i hi hk).2 h;have u1:∀j,j<ops.length->kd P ops j=3->j≠i->(ps P ops j<p↔ps P ops j<ps P ops i+1):=by
  grind[DC.bpos,mov,DC.mov]
 have z:∀j,j<ops.length->kd P ops j=2->ps P ops j<ps P ops i+1->A j:=by
  intro j M s B;have X0:i≠j:=λe=>by simp_all
  by_cases w1:ps P ops j<p
  .grind[alc]
  .by_cases U:i ∈ bf ops j\/j ∈ bf ops i
   .rcases U with h'|h'
    .have:=D.bpos j M i h';omega
    simp_all
   .have:=(D.mov i j hi M X0 hk U).2.1 s;omega
 have T:=J.at_level D hn j1 (Nat.le_of_lt c0) (λj M s B=>by
  grind) λj M s _ Z0=>z j M s byO
 have y0:∀id q,Φ id=some q->id<(Hs<|ps P ops i).length\/∃k W,ops[k]?=some W/\kd P ops k=2/\A k/\ps P ops i+1<=ps P ops k/\bY ops (Ts<|ps P ops k) W=true/\id=(Hs<|ps P ops k).length:=by
  intro id q m;rcases J.dom id q m with h|⟨k,W,X,q2,q3,q4,q5,q6⟩
  .left
   have:=J.rel.dom id q h
   grind[DC.len_le]
  .have s0:k<ops.length:=(List.getElem?_eq_some_iff.1 X).1
   by_cases Z0:ps P ops k<ps P ops i
   .left
    have⟨_,_,_,c,_,_,_,_,e1,_⟩:=D.made X q2 q5
    grind[DC.len_le]
   grind[DC.pos]
 have S:∀j c q,lo<=j->(Hs<|ps P ops i).get j=some c->Φ j=some q->w0.heap.size<=q.b\/∃j c R,lo<=j/\(Hs 0).get j=some c/\φ0 j=some R/\R.b=q.b:=by
  intro j c q b0 hc m;cases Y:φ0 j with
  | none=>exact J.fresh j q Y m
  | some q0=>
   have:=J.le0 j q0 Y;rw[m]at this;cases this;have⟨d,hd⟩:=D.keeps (ps P ops i) (Nat.le_of_lt c0) j c (x0 j q Y) ⟨q,Y⟩ hc
   grind
 have V:∀j,j<ops.length->kd P ops j=3->((A j\/j=i)↔ps P ops j<ps P ops i+1):=by
  grind[mov]
 have⟨v,l0,F⟩:=D.step i o ho;constructor
 .intro hw K hK Q
  rcases F with ⟨_,hs⟩|⟨m1,_,_⟩
  .have o0:=D.cl (ps P ops i)<|Nat.le_of_lt c0
   have o1:∀x ∈ (resolve P o.op).2,VRel (Φ.below (Hs<|ps P ops i).length) (ah (Ts<|ps P ops i) x)<|a.eval x:=by
    intro x hx;have h1:=J.evalOpd D ho C N x hx;have hop:=(D.opsOK o<|List.mem_of_getElem? ho).2 x hx;cases x with
    | tmp t=>exact(o0.2.1 t).below h1
    | const v=>exact(iS _ Xf:VRel _ v v)
    | global g=>
     have⟨n,hn⟩:=T.glob g (by grind[mq]);exact .ptr g 0 _<|Map.of_some.2 ⟨hn,rfl⟩
    | func f=>exact .func f #[] #[] #[] #[] rfl rfl (λj x y hx=>by simp at hx) (λj x y hx=>by simp at hx)
   refine DJ Z S0 o0.1 T o1 (AT hs) λcv g0 w' l hv=>?_
   let r:Map:=λid=>if id<(Hs<|ps P ops i+1).length then g0 id else Φ id
   have r1:=l.keeps.1;have u:Φ.le r:=by
    intro id q m;rcases y0 id q m with h|⟨k,W,X,q2,q3,q4,q5,q6⟩
    .have h2:Φ.below (Hs<|ps P ops i).length id=some q:=by grind[Map.below]
     simp[r];rw[if_pos byO];exact l.le id q h2
    grind[Nat.le_of_lt,DC.len_le,DC.pos]
   have G:g0.le r:=by
    intro id q m;have:=l.rel.dom id q m
    grind
   have⟨t1,t2,t3⟩:=J.put D hn ho N u l0<|hv.mono G;refine hK _ w' g0 r ⟨J.down' C,byO,V,λj M s B=>.inl<|z j M s B,l.rel,G,?_,?_,?_,t1,t2,t3,Map.le_trans J.le0 u,Nat.le_trans J.size l.size,?_,?_,l.os.trans J.os,l.out.trans J.out⟩
   .intro id q m
    simp[r]at m;split at m
    .exact l.rel.plc id q m
    .exact bd₀ (J.plc id q m) l.size
   .grind
   .intro k W X q2 q3 q4 q5
    have a0:k≠i:=λe=>by simp_all
    have H:A k:=q3.resolve_right a0;have⟨R,arr',p1,z0,a1,a2,a3,a4,⟨c2,a5,a6,a7⟩,a8,a9⟩:=J.al k W X q2 H byO q5;have s0:k<ops.length:=(List.getElem?_eq_some_iff.1 X).1;have Y0:=D.len_le hn q4<|Nat.le_of_lt (D.pos k s0).1;have H0:=J.plc _ R a1;have k1:w'.heap[R.b]?=w.heap[R.b]?:=by
     refine l.keep R.b H0 λj c p' b0 hc g1=>?_;have r0:=Heap.get_lt hc;exact a9 j p' (Map.below_le _ _ j p' g1) byO
    refine⟨R,arr',p1,z0,u _ _ a1,a2,Wx,a4,⟨c2,a5,a6,λj v hv=>?_⟩,a8,λid e0 O T0=>?_⟩
    .grind[VRel.mono]
    .simp[r]at O
     split at O
     .cases L:Φ.below (Hs<|ps P ops i).length id with
      | some H=>
       have:=l.le id H L;rw[O]at this;cases this;exact a9 id e0 (Map.below_le _ _ id e0 L) T0
      | none=>
       rcases l.fresh id e0 L O with h|⟨j,c,I,h1,h2,h3,h4⟩
       .omega
       .rw[<-h4]
        have r0:=Heap.get_lt h2;exact a9 j I (Map.below_le _ _ j I h3) byO
     grind
   .intro b L b1
    rw[l.keep b (bd₀ L J.size) ?_,J.keep b L b1];intro j c q b0 hc m;rcases S j c q b0 hc (Map.below_le _ _ j q m)with h|⟨j',c',R,h1,h2,h3,h4⟩
    all_goals grind
   .intro id q Y m
    simp[r]at m;split at m
    .cases L:Φ.below (Hs<|ps P ops i).length id with
     | some H=>
      have:=l.le id H L;rw[m]at this;cases this;exact J.fresh id q Y<|Map.below_le _ _ id q L
     | none=>
      rcases l.fresh id q L m with h|⟨j,c,I,h1,h2,h3,h4⟩
      .exact .inl<|Nat.le_trans J.size h
      .rw[<-h4];exact S j c I h1 h2<|Map.below_le _ _ j I h3
    .exact J.fresh id q Y m
  simp_all
 .intro hw
  rcases F with ⟨m1,_⟩|⟨_,rfl,hH⟩
  .simp_all
  .have⟨t1,t2,t3⟩:=J.put D hn ho N (Map.le_refl Φ) l0 fu
   refine⟨Φ.below (Hs<|ps P ops i).length,J.down' C,byO,V,λj M s B=>.inl<|z j M s B,Wx,Map.below_le _ _,J.plc,?_,?_,t1,t2,t3,J.le0,J.size,J.keep,J.fresh,J.os,J.out⟩
   .grind[Map.below]
   .intro k W X q2 q3 q4 q5
    have a0:k≠i:=λe=>by simp_all
    exact J.al k W X q2 (q3.resolve_right a0) byO q5
end
section
variable {ds:List Deferred}{P:Program}{callA:dd}{base lo nt:Nat}{ops:List Oper}
def tq:∀{l:XN} {t:Nat},t ∈ l->∃j,idxOf l t=some j
 | x::r,t,h=>by
  unfold idxOf;split
  .simp_all
  .have:t ∈ r:=by
    grind
   have⟨j,a⟩:=tq this
   simp_all
def rT{raised:Nat->dG}{l:XN}{a:Nat->Raw}{c:Nat->Heap}
  (b:∀m i,l[m]?=some i->∃o,ops[i]?=some o/\bZ P callA lo ops (raised i) o (a m) (c m)=some (a<|m+1,c<|m+1)) {t:Nat}:∀k m,m+k<=l.length->(∀x i o,m<=x->x<m+k->l[x]?=some i->ops[i]?=some o->o.dst≠some t)->a (m+k) t=a m t:=by
 intro k
 induction k with
 | zero=>simp_all
 | succ k q=>
  intro m p j;have⟨o,g,h⟩:=b (m+k) _<|bc₀ byO;have⟨v,e,_⟩:=mw h;rw[<-Nat.add_assoc,e];have f:=j (m+k) _ o byO byO (bc₀ byO) g;have:fZ (a<|m+k) o.dst v t=a (m+k) t:=by
   cases n:o.dst with
   | none=>rfl
   | some d=>
    grind[fZ]
  grind
def mV(h:gN P ops=true):(ord P ops).length=ops.length/\(∀i,i<ops.length->i ∈ ord P ops)/\Nd (ord P ops)/\(∀i ∈ ord P ops,i<ops.length) /\
  (∀i o,ops[i]?=some o->∀j ∈ bf ops i,∃e ∈ o.after.toList,Region.binds .any e=true/\(e.on=j\/j ∈ bf ops e.on)) /\
  (∀i o,ops[i]?=some o->∀e ∈ o.after.toList,Region.binds .any e=true->e.on<i) /\
  (∀i,i<ops.length->∀j ∈ bf ops i,ps P ops j<ps P ops i) /\
  (∀i o j a,ops[i]?=some o->o.guard=some (j,a)->j ∈ bf ops i) /\
  (∀i j o q,i≠j->ops[i]?=some o->ops[j]?=some q->¬ (i ∈ bf ops j\/j ∈ bf ops i)->∀d,o.dst=some d->q.dst≠some d/\d ∉ sK P ops q) /\
  (∀i j,i<ops.length->j<ops.length->i≠j->kd P ops i=3->¬ (i ∈ bf ops j\/j ∈ bf ops i)->kd P ops j≠3/\(kd P ops j=2->ps P ops i<ps P ops j) /\
   (kd P ops j=1->ps P ops j<ps P ops i/\(((∃o,ops[i]?=some o/\iu P o=true)/\(bH P ops j).isSome=true/\stays ops (beforeL ops) j (bH P ops j)=true)\/(i,j) ∈ gY P ops true))) /\
  (∀q ∈ gY P ops true,stays ops (beforeL ops) q.1 (bH P ops q.1)=true/\stays ops (beforeL ops) q.2 (bH P ops q.2)=true):=by
 unfold gN at h;simp only[ac₀]at h;obtain⟨⟨⟨⟨⟨⟨⟨⟨⟨⟨y,p⟩,r⟩,s⟩,t⟩,z⟩,u⟩,v⟩,A⟩,m⟩,n⟩:=h;have l:∀i j,ordered (beforeL ops) i j=true↔(i ∈ bf ops j\/j ∈ bf ops i):=by
  grind[ordered,bf,bOf]
 refine⟨by grind[ord],λi c=>?_,mn r,λi c=>?_,λi o b j g=>?_,λi o b e D B=>?_,λi c j g=>?_,λi o j a b w=>?_,λi j o q k b x f d C=>?_,λi j c g k F f=>?_,λq x=>?_⟩
 .have:=List.all_eq_true.1 p i Wx;grind[ord]
 .have:=List.all_eq_true.1 s i c;simp_all
 .have c:i<ops.length:=(List.getElem?_eq_some_iff.1 b).1
  have:=List.all_eq_true.1 (List.all_eq_true.1 t i Wx) j g;rw[b]at this;simp only[Option.map_some,aq₀,List.any_eq_true,ac₀,ar₀,beq_iff_eq,List.contains_eq_mem,af₀]at this
  assumption
 .grind
 .have:=List.all_eq_true.1 (List.all_eq_true.1 u i Wx) j g
  grind[ps,ord]
 .have c:i<ops.length:=(List.getElem?_eq_some_iff.1 b).1
  have:=List.all_eq_true.1 v i Wx;rw[b]at this;simp[ao₀,w,List.contains_eq_mem,af₀]at this;exact this
 all_goals grind[kd,ps,ord]
theorem wq{raised:Nat->dG}{b:Nat->Raw}{d:Nat->Heap}(z:(ord P ops).length=ops.length)
  (c:∀m i,(ord P ops)[m]?=some i->∃o,ops[i]?=some o/\bZ P callA lo ops (raised i) o (b m) (d m)=some (b<|m+1,d<|m+1))
  (a:∀m i,(ord P ops)[m]?=some i->i<ops.length/\ps P ops i=m) (l:∀i,i<ops.length->∀j ∈ bf ops i,ps P ops j<ps P ops i) {i:Nat} (n:i<ops.length) (q:ps P ops i<ops.length) {x:Operand}
  (h:stays ops (beforeL ops) i (some x)=true):ah (b ops.length) x=ah (b<|ps P ops i) x:=by
 cases x with
 | tmp t=>
  simp[stays,List.all_eq_true,List.mem_range,ar₀,List.contains_eq_mem,af₀]at h;have:=rT (t:=t) c (ops.length-ps P ops i) (ps P ops i) byO (λy j o r s k u w=>by
   have p:=a y j k;rcases h j p.1 with e|e
   .simp_all
   .have:=l i n j e;omega)
  rw[show ps P ops i+(ops.length-ps P ops i)=ops.length by omega]at this;exact this
 | const v=>rfl
 | global g=>rfl
 | func f=>rfl
theorem Bs{raised:Nat->dG}{b:Nat->Raw}{d:Nat->Heap}(A:(ord P ops).length=ops.length)
  (c:∀m i,(ord P ops)[m]?=some i->∃o,ops[i]?=some o/\bZ P callA lo ops (raised i) o (b m) (d m)=some (b<|m+1,d<|m+1))
  (a:∀m i,(ord P ops)[m]?=some i->i<ops.length/\ps P ops i=m) (l:∀i,i<ops.length->∀j ∈ bf ops i,ps P ops j<ps P ops i) {i:Nat} (n:i<ops.length) {m:Nat} (q:ps P ops i<=m) (z:m<=ops.length) {x:Operand}
  (h:stays ops (beforeL ops) i (some x)=true):ah (b m) x=ah (b<|ps P ops i) x:=by
 cases x with
 | tmp t=>
  simp[stays,List.all_eq_true,List.mem_range,ar₀,List.contains_eq_mem,af₀]at h;have:=rT (t:=t) c (m-ps P ops i) (ps P ops i) byO (λy j o r s k u w=>by
   have p:=a y j k;rcases h j p.1 with e|e
   .simp_all
   .have:=l i n j e;omega)
  rw[show ps P ops i+(m-ps P ops i)=m by omega]at this;exact this
 | const v=>rfl
 | global g=>rfl
 | func f=>rfl
theorem zC(w2:db callA)(L:gM P base P.globals.size callA):∀(lo:Nat) (Q:Exit->Act->World->Prop) (nt:Nat) (ops:List Oper) (ds:List Deferred) (φ:Map) (H:Heap) (w:World) (T:Raw) (a:Act),base<=lo->lo<=H.length->opsOK P nt ops=true->gN P ops=true ->
  Tmps ds φ nt T a->HRel φ base P.globals.size H w->∀T' H',bg P callA lo ops (bq P ops true) (du P ops true) T H=some (T',H')->oV P ops true T' ->
  (∀a' w' y0,Tmps ds y0 nt T' a'->Eff φ base P.globals.size lo H w y0 H' w'->Q .normal a' w')->wpAny P .any ops.toArray Q ops.length (Array.replicate ops.length false) a { w with drawn:=w.drawn+1 }:=by
 intro lo Q nt ops ds φ H w T a S0 A2 H0 b1 hT hH T' H' p2 Z0 hK;obtain⟨s1,s2,s3,s4,s5,s6,s7,s8,s9,H2,K2⟩:=mV b1;obtain⟨X,K,e1,e2,e3,e4,b0⟩:=oN _ T H T' H' p2;have k2:du P ops true=ord P ops:=rfl;rw[k2]at e3 e4 b0;rw[s1]at e3 e4;subst e1 e2;have s:∀i,i<ops.length->ps P ops i<ops.length/\(ord P ops)[ps P ops i]?=some i:=by
  intro i f;obtain⟨j,V⟩:=tq<|s2 i f;have hg:=dS V;have:ps P ops i=j:=by simp[ps,posOf,V]
  rw[this];exact⟨by have:=(List.getElem?_eq_some_iff.1 hg).1;omega,hg⟩
 have U:∀m i,(ord P ops)[m]?=some i->i<ops.length/\ps P ops i=m:=by
  intro m i Y1;have f:=s4 i<|List.mem_of_getElem? Y1;exact⟨f,s3 _ m i (s i f).2 Y1⟩
 have r2:=Qx L S0 H0 b0 A2 hT hH;have T0:∀m,m<=ops.length->lo<=(K m).length/\(∀t,ClV (K m).length<|X m t)/\∀i c v,(K m).get i=some c->v ∈ c->ClV (K m).length v:=by
  intro m Z1;obtain⟨y0,w',a',q1,q2,q3,q4,q5⟩:=r2 m byO;exact⟨q3,FR q1 q2⟩
 have O:∀i o,ops[i]?=some o->∃v,X (ps P ops i+1)=fZ (X<|ps P ops i) o.dst v /\
   ((bY ops (X<|ps P ops i) o=true/\nC P callA lo (bq P ops true i) o (X<|ps P ops i) (K<|ps P ops i)=some (v,K<|ps P ops i+1)) \/
    (bY ops (X<|ps P ops i) o=false/\v=undef/\K (ps P ops i+1)=K (ps P ops i))):=by
  intro i o A;have f:i<ops.length:=(List.getElem?_eq_some_iff.1 A).1;obtain⟨o',o0,u⟩:=b0 (ps P ops i) i (s i f).2;rw[A]at o0;cases o0;exact mw u
 have D:DC P callA base lo nt ops X K φ:=by
  refine⟨s,U,O,T0,?_,?_,gQ H0,s5,s7,s8,s9,?_⟩
  .intro m Z1 id c F1 G S
   obtain⟨y0,w',a',q1,q2,q3,q4,q5⟩:=r2 m byO;obtain⟨q,G⟩:=G;exact q5.2 id c q G S
  .intro i o A
   obtain⟨v,_,u⟩:=O i o A;have f:i<ops.length:=(List.getElem?_eq_some_iff.1 A).1;rcases u with ⟨_,u⟩|⟨_,_,u⟩
   .unfold nC at u
    cases d:rsv P (bq P ops true i) o with
    | mk r0 xs=>
    rw[d]at u;cases r0 with
    | l l=>simp[aa₀,ad₀]at u;obtain⟨_,_,_,e⟩:=u;rw[<-e];exact Same.refl _ _
    | h h=>exact wH w2 (T0 _<|Nat.le_of_lt (s i f).1).1 u
   .rw[u];exact Same.refl _ _
  .intro i j f V y2 hk g2
   obtain⟨m1,m2,m3⟩:=H2 i j f V y2 hk g2;refine⟨m1,m2,λT1=>?_⟩;obtain⟨m4,m5⟩:=m3 T1;refine⟨m4,λid F1 hx=>?_⟩;have A:ops[i]?=some ops[i]:=bc₀ f;obtain⟨v,_,u⟩:=O i _ A;rcases u with ⟨_,u⟩|⟨_,_,u⟩
   .rcases m5 with ⟨⟨o',o0,S⟩,x2,W⟩|F
    .rw[A]at o0;cases o0
     obtain⟨y,M⟩:=Option.isSome_iff_exists.1 x2;have o1:=s i f;rw[M]at W;have hy:=hx y M;rw[<-Bs s1 b0 U s7 V (Nat.le_of_lt m4) (Nat.le_of_lt o1.1) W]at hy;have g:y ∈ (looseAt (eh P ops) (beforeL ops) i).filterMap (bH P ops):=by
      refine List.mem_filterMap.2 ⟨j,List.mem_filter.2 ⟨by simpa[eh]using V,?_⟩,M⟩;have z2:((eh P ops)[j]?).getD 0=1:=T1;have j2:ordered (beforeL ops) i j=false:=by
       have:¬ ordered (beforeL ops) i j=true:=by
        intro S;apply g2;simpa[ordered,bf,bOf]using S
       simpa using this
      simp[z2,j2]
     unfold iu at S;unfold nC rsv at u;cases d:resolve P ops[i].op with
     | mk r0 xs=>
     rw[d]at S u;cases r0 with
     | l l=>simp at S
     | h h=>
      cases h<;>simp at S;have p1:∃l,bq P ops true i=some l/\y ∈ l:=by
       unfold bq;simp[if_true];revert g;cases (looseAt (eh P ops) (beforeL ops) i).filterMap (bH P ops)with
       | nil=>intro g;simp at g
       | cons a l=>intro g;exact⟨_,rfl,g⟩
      obtain⟨l,p1,F2⟩:=p1;rw[p1]at u;have B2:di callA lo l.length ((l++xs).map<|ah<|X<|ps P ops i) (K<|ps P ops i)=some (v,K<|ps P ops i+1):=u;exact Am B2 (by
       rw[List.map_append,List.take_left' Wc];exact List.mem_map.2 ⟨y,F2,rfl⟩) hy
    .
     obtain⟨x,y,Y,M,hd⟩:=Z0 (i,j) F;simp only at Y M;have st:=K2 (i,j) F;simp[Y,M]at st;rw[<-e3]at hd;rw[wq s1 b0 U s7 f (s i f).1 st.1,wq s1 b0 U s7 V (s j V).1 st.2,hx y M]at hd;have j1:iu P ops[i]=false:=by
      simp only[gY,if_true,List.mem_flatMap,List.mem_range]at F;obtain⟨i',M2,hp⟩:=F;split at hp
      next g0=>
       simp[List.mem_map,ad₀]at hp;obtain⟨_,_,rfl,_⟩:=hp;simp[ac₀,Bool.not_eq_true']at g0;simpa[A]using g0.2
      .simp at hp
     have u:=AT u;cases d:resolve P ops[i].op with
     | mk r0 xs=>
     rw[d]at u;cases r0 with
     | l l=>simp[aa₀,ad₀]at u;obtain⟨_,_,_,e⟩:=u;rw[<-e]
     | h h=>
      have a2:h.isCall=false:=by
       unfold iu at j1;rw[d]at j1;cases h<;>simp at j1<;>first|rfl|exact(Eo d).elim|exact(Ep d).elim
      refine(rJ a2 u).2.1 id F1 λz hz=>?_;have C2:z=ah (X<|ps P ops i) x:=by
       simp only[bH,A,d]at Y;cases xs with
       | nil=>simp at Y
       | cons x' r=>simp at Y hz;rw[<-hz,Y]
      rw[C2];rcases hd with hd|hd
      .rw[hd];simp
      .exact hd
   .rw[u]
 have q0:ops.toArray.size=ops.length:=Wc
 have G2:∀(B:Nat) (b:Array Bool) (a1:Act) (w1:World),b.size=ops.length->((List.range ops.length).filter λi=>!b.getD i true).length<=B ->
   (∃p ψ Φ,JD ds P base lo nt ops X K φ { w with drawn:=w.drawn+1 } (λj=>b.getD j false=true) a1 w1 p ψ Φ)->wpAny P .any ops.toArray Q B b a1 w1:=by
  intro B;have u1:∀(b:Array Bool),b.size=ops.length->Region.ready .any ops.toArray b=[]->∀i,i<ops.length->b.getD i false=true:=by
   intro b N I i
   induction i using Nat.strongRecOn with
   | _ i ih=>
    intro f;refine Decidable.byContradiction λb2=>?_;have A:ops[i]?=some ops[i]:=bc₀ f;have g:i ∈ Region.ready .any ops.toArray b:=by
     unfold Region.ready;rw[q0];refine List.mem_filter.2 ⟨Yk,?_⟩;have j0:i<b.size:=byO;have hf:b.getD i true=false:=by
      simp[at₀,Array.getElem?_eq_getElem j0,aq₀]at b2 ⊢;simpa using b2
     simp only[hf,Bool.not_false,aj₀,A,Option.map_some,aq₀,Bool.true_and,Array.all_eq_true_iff_forall_mem,ar₀,Bool.not_eq_true'];intro e he;cases hb:Region.binds .any e with
     | false=>exact .inl rfl
     | true=>
      have X1:=s6 i _ A e (by simpa using he) hb;exact .inr<|ih e.on X1 byO
    rw[I]at g;simp at g
  have x1:∀(b:Array Bool) (a1:Act) (w1:World),b.size=ops.length->(∃p ψ Φ,JD ds P base lo nt ops X K φ { w with drawn:=w.drawn+1 } (λj=>b.getD j false=true) a1 w1 p ψ Φ)->Region.ready .any ops.toArray b=[]->Q .normal a1 w1:=by
   intro b a1 w1 N ⟨p,ψ,Φ,J⟩ I;have e0:=u1 b N I;have x0:∀i,i<ops.length->kd P ops i=3->p<=ps P ops i->ops.length<=ps P ops i:=by
    intro i f l0 N2;have:=(J.mov i f l0).1<|e0 i f;omega
   have o2:=J.at_level D s1 J.ple (Nat.le_refl _) x0 λi f _ _ _=>e0 i f;rw[<-e3,<-e4]at hK;refine hK a1 w1 (Φ.below (K ops.length).length) ⟨J.tsz,λt=>?_,J.tdef⟩ ?_
   .refine((T0 ops.length<|Nat.le_refl _).2.1 t).below<|J.tmp t ops.length (Nat.le_refl _) λj o V _=>?_
    have G1:j<ops.length:=(List.getElem?_eq_some_iff.1 V).1;exact⟨λ_=>(s j G1).1,λ_=>e0 j G1⟩
   .have W1:=D.len_le s1 (Nat.zero_le ops.length)<|Nat.le_refl _
    refine Eff.of_drawn (n:=w.drawn+1) ⟨λi q G=>?_,o2,⟨W1,λi c q G S=>?_⟩,J.size,J.keep,λi q h0 G=>J.fresh i q h0<|Map.below_le _ _ i q G,J.os,J.out⟩
    .have:=hH.dom i q G
     unfold Map.below;rw[if_pos byO];exact J.le0 i q G
    .exact D.keeps ops.length (Nat.le_refl _) i c (hH.dom i q G) ⟨q,G⟩ S
  induction B with
  | zero=>
   intro b a1 w1 N z1 hJ;have z0:((List.range ops.length).filter λi=>!b.getD i true)=[]:=List.eq_nil_of_length_eq_zero byO;have I:Region.ready .any ops.toArray b=[]:=by
    unfold Region.ready;rw[q0,List.filter_eq_nil_iff];intro i f S;rw[List.filter_eq_nil_iff]at z0;have:=z0 i f;simp only[ac₀]at S;exact this S.1
   exact⟨I,x1 b a1 w1 N hJ I⟩
  | succ B ih=>
   intro b a1 w1 N z1 hJ;refine⟨λI=>x1 b a1 w1 N hJ I,λi Z=>?_⟩;obtain⟨p,ψ,Φ,J⟩:=hJ;unfold Region.ready at Z;rw[q0]at Z;obtain⟨B1,Z⟩:=List.mem_filter.1 Z;have f:i<ops.length:=by simpa using B1
   have A:ops[i]?=some ops[i]:=bc₀ f;simp only[ac₀,Bool.not_eq_true',aj₀,A,Option.map_some,aq₀,Array.all_eq_true_iff_forall_mem,ar₀]at Z;obtain⟨r1,w0⟩:=Z;have j0:i<b.size:=byO;have a0:¬ b.getD i false=true:=by
    simp only[at₀,Array.getElem?_eq_getElem j0,aq₀]at r1 ⊢;simp[r1]
   have C:∀j ∈ bf ops i,b.getD j false=true:=by
    intro j V;obtain⟨e,he,hb,k1⟩:=s5 i _ A j V;have A1:=(w0 e (by simpa using he)).resolve_left (by simp[hb]);have L2:=s6 i _ A e he hb;rcases k1 with rfl|k1
    .exact A1
    .exact J.down e.on j A1 byO k1
   have u2:∀j,((b.setIfInBounds i true).getD j false=true)↔(b.getD j false=true\/j=i):=by
    intro j;simp only[at₀,Array.getElem?_setIfInBounds];by_cases g1:i=j
    .subst g1;simp[j0]
    .simp[g1];intro e;exact absurd e.symm g1
   have y1:(λj=>(b.setIfInBounds i true).getD j false=true)=(λj=>b.getD j false=true\/j=i):=funext λj=>propext<|u2 j;have X0:((List.range ops.length).filter λk=>!(b.setIfInBounds i true).getD k true).length<=B:=by
    have X1:((List.range ops.length).filter λk=>!(b.setIfInBounds i true).getD k true).length<((List.range ops.length).filter λi=>!b.getD i true).length:=by
     have sub:((List.range ops.length).filter λk=>!(b.setIfInBounds i true).getD k true)=(((List.range ops.length).filter λi=>!b.getD i true).filter λk=>!(k==i)):=by
      rw[List.filter_filter];refine List.filter_congr λk hk=>?_;simp only[at₀,Array.getElem?_setIfInBounds];by_cases l0:i=k
      .subst l0;simp[j0]
      .have:(k==i)=false:=by simp;exact λe=>l0 e.symm
       simp[l0,this]
     rw[sub];refine List.length_filter_lt_length_iff_exists.2 ⟨i,List.mem_filter.2 ⟨B1,by simp[r1]⟩,Wc⟩
    omega
   have next:∀a' w' p' c0 R,JD ds P base lo nt ops X K φ { w with drawn:=w.drawn+1 } (λj=>b.getD j false=true\/j=i) a' w' p' c0 R->wpAny P .any ops.toArray Q B (b.setIfInBounds i true) a' w':=by
    intro a' w' p' c0 R J';exact ih _ a' w' (by simp[N]) X0 ⟨p',c0,R,by rw[y1];exact J'⟩
   unfold wpOp;simp only[aj₀,A];rw[J.want D A C a0];cases hw:bY ops (X<|ps P ops i) ops[i]with
   | false=>
    simp only[ah₀,if_false];by_cases hk:kd P ops i=3
    .obtain⟨c0,J'⟩:=(J.move D L S0 hH.dom s1 A hk C a0).2 hw
     exact next _ _ _ _ _ J'
    .exact next _ _ _ _ _ (J.idle D s1 A hk C a0 hw)
   | true=>
    simp only[if_true];left;by_cases hk:kd P ops i=3
    .exact(J.move D L S0 hH.dom s1 A hk C a0).1 hw λa' w' c0 R J'=>next a' w' _ c0 R J'
    .by_cases S1:kd P ops i=2
     .exact J.make D s1 A S1 C a0 hw λa' w' R J'=>next a' w' p ψ R J'
     .have L1:kd P ops i=0\/kd P ops i=1:=by
       have:=Cr (P:=P) (o:=ops[i]);rw[D.kd_at A]at hk S1 ⊢;omega
      exact J.light D s1 A L1 C a0 hw λa' J'=>next a' w1 p ψ Φ J'
 refine G2 ops.length _ a _ Wc (Nat.le_trans (List.length_filter_le _ _) Wc) ⟨0,φ,φ,?_⟩;have s0:∀j,¬ ((Array.replicate ops.length false).getD j false=true):=by
  intro j;simp only[at₀,Array.getElem?_replicate];split<;>simp
 refine⟨λi j h=>absurd h<|s0 i,Nat.zero_le _,λi f hk=>⟨λh=>absurd h<|s0 i,λh=>byO⟩,λi f hk h=>byO,hH.congr rfl,Map.le_refl φ,λi q G=>hH.plc i q G,λid q G=>.inl G,λk o h1 h2 h3=>absurd h3<|s0 k,hT.size,hT.defers,λt m Z1 Y0=>?_,
  Map.le_refl φ,Nat.le_refl _,λ_ _ _=>rfl,λi q h0 G=>by rw[h0]at G;simp at G,rfl,rfl⟩
 have K1:=D.keepT s1 (t:=t) m 0 byO (λj o V hd _=>by
  refine Decidable.byContradiction λS=>?_;exact s0 j<|(Y0 j o V hd).2 byO)
 rw[Nat.zero_add]at K1;rw[K1];exact hT.rel t
def Fa{d:List Oper}{ol:Oper}{Q p:Exit->Act->World->Prop}(q:∀e a w,e≠.normal->p e a w->Q e a w)(D:∀o ∈ d,∀j b,o.guard=some (j,b)->j<d.length){i:Nat}(y:i<d.length){K m:Act->World->Prop}(t:∀a w,K a w->m a w){a:Act}{w:World}
  (h:wpOp P d.toArray p i K a w):wpOp P (d++[ol]).toArray Q i m a w:=by
 have z:d[i]?=some d[i]:=List.getElem?_eq_getElem y;have k:(d++[ol])[i]?=some d[i]:=Xu
 unfold wpOp at h ⊢;simp[aj₀,z]at h;simp[aj₀,k];have B:Region.wanted d[i] (yielded (d++[ol]).toArray a.tmps)=Region.wanted d[i] (yielded d.toArray a.tmps):=by
  grind[Region.wanted,yielded]
 rw[B];split at h
 next A=>
  rw[if_pos A];refine h.imp (λh=>?_) (λ⟨s,f,l,g⟩=>⟨s,f,l,q _ _ _ Wc g⟩);unfold Oper.wp at *;generalize (execOp a.eval d[i]).run P w=r at *;cases r with
  | ok n w'=>
   cases n<;>simp[Oper.upon]at h ⊢<;>
    first
     | exact t _ _ h
     | exact Calls.mono h (λe C u=>by
       cases e with
       | returned v=>simp_all
       | panicked c=>simp_all
       | outgrown=>have⟨f,l,g⟩:=u;exact⟨f,l,q _ _ _ Wc g⟩)
     | grind[Rows.mono]
  | halt x w'=>cases x<;>simp[Oper.upon]at h ⊢<;>first|exact h|simp_all
 simp_all
def Bz{d:List Oper}{ol:Oper}{Q u:Exit->Act->World->Prop}(S:∀e a w,e≠.normal->u e a w->Q e a w)(T:∀o ∈ d,∀j b,o.guard=some (j,b)->j<d.length)
  (x:∀(i:Nat) (o:Oper),(d++[ol])[i]?=some o->∀e ∈ o.after.toList,Region.binds .any e=true->e.on<i)
  (F:∀(i:Nat) (o:Oper),(d++[ol])[i]?=some o->∀j ∈ bf (d++[ol]) i,∃e ∈ o.after.toList,Region.binds .any e=true/\(e.on=j\/j ∈ bf (d++[ol]) e.on))
  (J:∀j,j<d.length->j ∈ bf (d++[ol]) d.length)
  (r:∀a w,u .normal a w->wpOp P (d++[ol]).toArray Q d.length (Q .normal) a w):∀(g:Nat) (c:Array Bool) (a:Act) (w:World),c.size=d.length->(∀i,c.getD i false=true->∀j ∈ bf (d++[ol]) i,c.getD j false=true) ->
   wpAny P .any d.toArray u g c a w->wpAny P .any (d++[ol]).toArray Q (g+1) (c.push false) a w:=by
 have M:(d++[ol]).length=d.length+1:=Wc
 have I:∀(c:Array Bool),c.size=d.length->∀i,(c.push false).getD i false=c.getD i false:=by
  intro c m i;simp[at₀,Array.getElem?_push]
  grind
 have t:∀(c:Array Bool),c.size=d.length->∀i,i<d.length->(c.push false).getD i true=c.getD i true:=by
  grind
 have A:∀(c:Array Bool),c.size=d.length->∀i,i<d.length->(i ∈ Region.ready .any (d++[ol]).toArray (c.push false)↔i ∈ Region.ready .any d.toArray c):=by
  grind[mem_ready]
 have s:∀(c:Array Bool),c.size=d.length->(∀i,c.getD i false=true->∀j ∈ bf (d++[ol]) i,c.getD j false=true)->d.length ∈ Region.ready .any (d++[ol]).toArray (c.push false)->∀j,j<d.length->c.getD j false=true:=by
  intro c m B z j L;have⟨_,o,y,n⟩:=mem_ready.1 z
  grind
 have some:∀(c:Array Bool),c.size=d.length->Region.ready .any (d++[ol]).toArray (c.push false)≠[]:=by
  intro c m l;have H:∀i,i<d.length+1->(c.push false).getD i false=true:=by
   intro i
   induction i using Nat.strongRecOn with
   | _ i N=>
    intro p;refine Decidable.byContradiction λW=>?_;have y:(d++[ol])[i]?=some (d++[ol])[i]:=bc₀ Wr
    grind[mem_ready]
  have:=H d.length byO
  grind
 have O:∀(g:Nat) (c:Array Bool) (a:Act) (w:World),c.size=d.length->(∀i,c.getD i false=true->∀j ∈ bf (d++[ol]) i,c.getD j false=true)->d.length ∈ Region.ready .any (d++[ol]).toArray (c.push false)->wpAny P .any d.toArray u g c a w ->
   wpOp P (d++[ol]).toArray Q d.length (wpAny P .any (d++[ol]).toArray Q g<|(c.push false).setIfInBounds d.length true) a w:=by
  intro g c a w m B z h;have D:=s c m B z;have l:Region.ready .any d.toArray c=[]:=by
   rw[List.eq_nil_iff_forall_not_mem]
   grind[mem_ready]
  have C:u .normal a w:=by
   cases g with
   | zero=>exact h.2
   | succ f=>exact h.1 l
  refine wpOp_mono (λa w Y=>wpAny_done ?_ Y g)<|r a w C;rw[List.eq_nil_iff_forall_not_mem];intro i p;have⟨R,o,y,_⟩:=mem_ready.1 p;have q:i<d.length+1:=by
   grind
  by_cases K:i=d.length
  .simp_all
  .have Z:=D i byO
   rw[getD_set_ne true λe=>K e.symm,t c m i byO]at R
   grind
 have range:∀(c:Array Bool),c.size=d.length->∀i,i ∈ Region.ready .any (d++[ol]).toArray (c.push false)->i<d.length\/i=d.length:=by
  grind[mem_ready]
 intro g
 induction g with
 | zero=>
  intro c a w m B h;refine⟨λl=>absurd l<|some c m,λi p=>?_⟩;rcases range c m i p with x|rfl
  .have:=(A c m i x).1 p
   rw[h.1]at this;grind
  grind
 | succ g N=>
  intro c a w m B h;refine⟨λl=>absurd l<|some c m,λi p=>?_⟩;rcases range c m i p with q|rfl
  .have z:=(A c m i q).1 p
   refine Fa S T q (λa w V=>?_)<|h.2 i z;have e:(c.push false).setIfInBounds i true=(c.setIfInBounds i true).push false:=by
    apply Array.ext_getElem?;intro j;simp[Array.getElem?_setIfInBounds,Array.getElem?_push,Array.size_push,Array.size_setIfInBounds];by_cases U:i=j
    all_goals grind
   rw[e];refine N _ a w (by simp[m]) (λk G j L=>?_) V;by_cases v:k=i
   .subst v
    have⟨_,o,y,n⟩:=mem_ready.1 p;rw[aj₀]at y;have⟨e,K,hb,X⟩:=F k o y j L
    grind[getD_set_true]
   .rw[getD_set_ne false λe=>v e.symm]at G
    grind[getD_set_true]
  grind
theorem mZ{b β:Type}{f g:b->Option β}:∀(l:List b),(∀j ∈ l,f j=g j)->l.filterMap f=l.filterMap g
 | [],_=>rfl
 | a::l,h=>by
  rw[List.filterMap_cons,List.filterMap_cons,h a Wc,mZ l λj c=>h j (by simp[c])]
theorem rP{a:List Oper}{ol:Oper}{r r':Nat->dG}(f:∀o ∈ a,∀j b,o.guard=some (j,b)->j<a.length)(k:∀i,i<a.length->r i=r' i):∀(l:XN),(∀i ∈ l,i<a.length)->∀T H,bg P callA lo (a++[ol]) r l T H=bg P callA lo a r' l T H
 | [],_,T,H=>rfl
 | i::l,e,T,H=>by
  have d:=e i Wc;have h:(a++[ol])[i]?=a[i]?:=ax₀ d;have c:a[i]?=some a[i]:=bc₀ d;simp[bg,h,c];have n:bY (a++[ol]) T a[i]=bY a T a[i]:=by
   grind[bY]
  have m:bZ P callA lo (a++[ol]) (r i) a[i] T H=bZ P callA lo a (r' i) a[i] T H:=by
   grind[bZ]
  rw[m];split
  .exact rP f k l (λj g=>e j (by simp[g])) _ _
  .rfl
def C4(hm:P.follows .mixedOrders=true){d:CallR}(M:db d.ret)(s:gM P base P.globals.size d.ret)(D:sS P base P.globals.size d.pan):mH P d base:=by
 refine⟨λlo Q id nt ops ds φ H w T a J K L U V W G H' X Y h9=>wp_region_any hm ?_,λlo Q id nt ops ds φ H w T a J K L U V W p G H' X Y=>wp_region_any hm ?_⟩
 .grind[zC]
 .rcases X with ⟨h,_⟩|⟨_,N,S,o,hh,xs,ho,n,hw,f,hsem⟩
  .cases h
  unfold qQ at N;simp only[Bool.and_eq_true,beq_iff_eq,List.all_eq_true,List.mem_range,List.isEmpty_iff,Bool.not_eq_true',List.contains_eq_mem,decide_eq_true_eq]at N;have⟨_,a0,C,b0,Z,y,g0,B,c0⟩:=N;have⟨s1,s2,s3,s4,s5,s6,s7,s8,s9,h0,j0⟩:=mV U;have⟨t1,t2,t3,t4,_⟩:=mV C;generalize u:ops.dropLast=c at *;have O:ops≠[]:=Xu
  have l:ops=c++[o]:=by
   grind[List.dropLast_concat_getLast]
  have hg:∀o ∈ c,∀j b,o.guard=some (j,b)->j<c.length:=by
   grind
  subst l;have y:∀i,i<c.length->bq P (c++[o]) true i=bq P c true i:=by
   intro i I;have he:=y i I;unfold bq;simp[if_true,he];rw[show(looseAt (eh P c) (beforeL c) i).filterMap (bH P<|c++[o])=(looseAt (eh P c) (beforeL c) i).filterMap (bH P c) from ?_];apply mZ;intro j hj;have e0:j<c.length:=by
    have:=List.mem_range.1 (List.mem_filter.1 hj).1
    grind[eh]
   grind[bH]
  have v:opsOK P nt c=true:=List.all_eq_true.2 λx hx=>List.all_eq_true.1 L x (by simp[hx]);rw[rP (r':=bq P c true) hg y _ (λi I=>by
   grind[ord])]at n
  have t:oV P c true G:=by
   intro q hq;grind
  have g:∀a' w' z,Tmps ds z nt G a'->Eff φ base P.globals.size lo H w z S w'->wpOp P (c++[o]).toArray Q c.length (Q .normal) a' w':=by
   intro a' w' z r k;have⟨hd,hop⟩:=gQ L o Wc;unfold wpOp;simp[aj₀,ho];rw[nq r o,hw];simp[if_true];left;have f:=D0 f hsem;rw[f]at hop;refine zx D J (Nat.le_trans K k.keeps.1) k.rel f (λx hx=>r.eval k.rel.glob x (by
    grind[mq])) hsem λcv F R m hv=>?_
   exact Y a' R F cv (r.mono m.le) (Eff.trans k m) hv
  have:=zC M s lo (λe a w=>match e with | .normal=>wpOp P (c++[o]).toArray Q c.length (Q .normal) a w|e=>Q e a w) nt c ds φ H w T a J K v C V W G S n t g;have A:=Bz (Q:=Q) (ol:=o) (λe a w O h=>by grind) hg s6 s5 B (λa w h=>h) c.length _ a _ Wc (λi I=>by
   exfalso;revert I;simp[at₀,Array.getElem?_replicate];split<;>simp) this
  have e:(Array.replicate c.length false).push false=Array.replicate (c++[o]).length false:=by
   grind
  rw[e]at A;simpa using A
def sound(b:P.follows .mixedOrders=true){cp:Wl}(a:je P cp)(base:Nat):∀n,RunOK P base P.globals.size<|run cp n:=
 JL (λn h=>C4 b (AO cp n) h.toRet h.toPan) a
end
end Go.Abs
