/- Lemmas. -/
import Derived.Test.YtgiojnobcjnibaaGreatDoorH1
set_option linter.all false
theorem Wx{P:Prop}(h:P:=by simp_all):P:=h
def Xq{P:Prop}(h:P:=by rcases Nat.mul_eq_zero.1 h0 with h|h<;>omega):P:=h
def Xw{P:Prop}(h:P:=by rw[<-Array.toArray_toList (xs:=args),N]):P:=h
def XG{P:Prop}(h:P:=by simp[Map.set]):P:=h
def XM{P:Prop}(h:P:=by simp[putCells]):P:=h
def XY{P:Prop}(h:P:=by rw[hK];simp[Question.cut]):P:=h
theorem Yi{P:Prop}(h:P:=by rw[B];omega):P:=h
namespace Go.Abs
def Heap.keeps(φ:Map)(H H':Heap):Prop:=H.length<=H'.length/\∀i c p,φ i=some p->H'.get i=some c->∃d,H.get i=some d
structure Eff (φ:Map)(base G lo:Nat)(H:Heap)(w:World)(φ':Map)(H':Heap)(w':World):Prop where
 le:φ.le φ'
 rel:HRel φ' base G H' w'
 keeps:Heap.keeps φ H H'
 size:w.heap.size<=w'.heap.size
 keep:∀b,b<w.heap.size->(∀i c p,lo<=i->H.get i=some c->φ i=some p->p.b≠b)->w'.heap[b]?=w.heap[b]?
 fresh:∀i p,φ i=none->φ' i=some p->w.heap.size<=p.b\/∃j c q,lo<=j/\H.get j=some c/\φ j=some q/\q.b=p.b
 os:w'.os=w.os
 out:w'.output=w.output
section
variable {P:Program}{φ:Map}{base G lo:Nat}{H:Heap}{w:World}
theorem HRel.congr{w':World}(h:HRel φ base G H w)(e:w'.heap=w.heap):HRel φ base G H w':=
 ⟨λi c b=>by grind[cell],h.inj,h.dom,h.glob,λi p a=>by rw[e];exact h.plc i p a⟩
theorem HRel.place(h:HRel φ base G H w){i:Nat}{c:XV}(a:H.get i=some c):∃p,φ i=some p:=by have⟨p,e,_⟩:=h.cell i c a;exact⟨p,e⟩
theorem HRel.block_lt(h:HRel φ base G H w){i:Nat}{c:XV}{p:Place}(b:H.get i=some c)(a:φ i=some p):p.b<w.heap.size:=by exact h.plc i p a
theorem Heap.keeps_refl(H:Heap):Heap.keeps φ H H:=⟨Nat.le_refl _,λ_ c _ _ h=>⟨c,h⟩⟩
theorem Heap.keeps_trans{ψ:Map}{H f g:Heap}(e:φ.le ψ)(a:Heap.keeps φ H f)(b:Heap.keeps ψ f g):Heap.keeps φ H g:=
 ⟨Nat.le_trans a.1 b.1,λi c p h j=>by
  have⟨d,k⟩:=b.2 i c p (e i p h) j;exact a.2 i d p h k⟩
theorem Eff.refl(h:HRel φ base G H w):Eff φ base G lo H w φ H w:=
 ⟨Map.le_refl φ,h,Heap.keeps_refl H,Nat.le_refl _,λ_ _ _=>rfl,λi p a b=>by simp_all,rfl,rfl⟩
theorem Eff.drawn{a:Map}{H':Heap}{w':World}(h:Eff φ base G lo H w a H' w')(n:Nat):Eff φ base G lo H w a H' { w' with drawn:=n }:=
 ⟨h.le,h.rel.congr rfl,h.keeps,h.size,h.keep,h.fresh,h.os,h.out⟩
theorem Eff.of_drawn{a:Map}{H':Heap}{w':World}{n:Nat}(h:Eff φ base G lo H { w with drawn:=n } a H' w'):Eff φ base G lo H w a H' w':=
 ⟨h.le,h.rel,h.keeps,h.size,h.keep,h.fresh,h.os,h.out⟩
theorem Eff.trans{e k:Map}{l n:Heap}{t u:World}(a:Eff φ base G lo H w e l t)(b:Eff e base G lo l t k n u):Eff φ base G lo H w k n u:=by
 have o:∀j c q,lo<=j->l.get j=some c->e j=some q->w.heap.size<=q.b\/∃j c g,lo<=j/\H.get j=some c/\φ j=some g/\g.b=q.b:=by
  intro j c q z v B;cases m:φ j with
  | some g=>
   have⟨d,I⟩:=a.keeps.2 j c g m v;have:=a.le j g m
   grind
  | none=>exact a.fresh j q m B
 refine⟨Map.le_trans a.le b.le,b.rel,Heap.keeps_trans a.le a.keeps b.keeps,Nat.le_trans a.size b.size,?_,?_,b.os.trans a.os,b.out.trans a.out⟩
 .intro x s A
  rw[b.keep x (bd₀ s a.size) ?_,a.keep x s A]
  grind
 .intro i p y r
  cases f:e i with
  | some q=>
   have:=b.le i q f;rw[r]at this;cases this;exact a.fresh i p y f
  | none=>
   rcases b.fresh i p f r with h|⟨j,c,q,C,D,E,F⟩
   .exact .inl<|Nat.le_trans a.size h
   grind
theorem Heap.get_append_left{H:Heap}{x:Option XV}{i:Nat}(h:i<H.length):Heap.get (H++[x]) i=H.get i:=by grind[get]
theorem Heap.get_append_right{H:Heap}{x:Option XV}:Heap.get (H++[x]) H.length=x:=by unfold Heap.get;simp;cases x<;>rfl
theorem Heap.get_append_out{H:Heap}{x:Option XV}{i:Nat}(h:H.length<i):Heap.get (H++[x]) i=none:=by grind[get]
theorem Heap.get_set{H:Heap}{i j:Nat}{x:Option XV}(h:i<H.length):Heap.get (H.set i x) j=if j=i then x else H.get j:=by
 unfold Heap.get;by_cases e:i=j
 .subst e;simp[h];cases x<;>rfl
 grind
def Map.set(φ:Map)(i:Nat)(p:Place):Map:=λj=>if j=i then some p else φ j
theorem Map.le_set{i:Nat}(h:∀p,φ i≠some p)(p:Place):φ.le<|φ.set i p:=by
 intro j q a
 grind[set]
theorem iL(o:Obj):(w.alloc o).heap=w.heap.push o:=rfl
theorem iX(o:Obj){b:Nat}(h:b<w.heap.size):(w.alloc o).heap[b]?=w.heap[b]?:=by grind[iL]
theorem m9(o:Obj):(w.alloc o).heap[w.heap.size]?=some o:=by grind[iL]
theorem Eff.allocF(o:HRel φ base G H w){arr:Array Value}{c:XV}(ty:TypeId)(A:Nat×Nat)(C:NoFrz arr.size A)(z:c.length<=arr.size)(L:∀(j:Nat) v,c[j]?=some v->∃u,arr[j]?=some u/\VRel φ v u) :
  Eff φ base G lo H w (φ.set H.length ⟨w.heap.size,0,arr.size,0⟩) (H++[some c]) (w.alloc<|.cells arr ty A)/\(φ.set H.length ⟨w.heap.size,0,arr.size,0⟩).c H.length=some ⟨w.heap.size,0,arr.size,0⟩:=by
 have r:∀p,φ H.length≠some p:=λp e=>absurd (o.dom _ p e) byO;have m:=Map.le_set r ⟨w.heap.size,0,arr.size,0⟩;have f:(φ.set H.length ⟨w.heap.size,0,arr.size,0⟩) H.length=some ⟨w.heap.size,0,arr.size,0⟩:=XG
 have k:∀i,i<H.length->(φ.set H.length ⟨w.heap.size,0,arr.size,0⟩) i=φ i:=λi t=>by simp[Map.set];omega
 have a:∀i d,Heap.get (H++[some c]) i=some d->(i<H.length/\H.get i=some d)\/(i=H.length/\d=c):=by
  intro i d l;by_cases s:i<H.length
  .rw[Heap.get_append_left s]at l;exact .inl ⟨s,l⟩
  .by_cases h:i=H.length
   .subst h;rw[Heap.get_append_right]at l;cases l;exact .inr ⟨rfl,rfl⟩
   .rw[Heap.get_append_out byO]at l;simp at l
 refine⟨⟨m,⟨?_,?_,?_,?_,?_⟩,⟨Wc,?_⟩,by rw[iL];simp,?_,?_,rfl,rfl⟩,Map.of_some.2 ⟨f,rfl⟩⟩
 .intro i d l
  rcases a i d l with ⟨s,h⟩|⟨rfl,rfl⟩
  .have⟨p,F,K⟩:=o.cell i d h
   have y:=o.block_lt h F;exact⟨p,m _ _ F,by rw[iX _ y];exact K.mono m id⟩
  .refine⟨_,f,.inl ⟨rfl,arr,ty,A,m9 _,Wc,z,λj v S=>?_,λ_=>C⟩⟩
   have⟨u,R,Q⟩:=L j v S;exact⟨u,by simpa using R,Q.mono m⟩
 .intro i j D E p q t N e x y B
  rcases a i D t with ⟨s,h⟩|⟨rfl,rfl⟩<;>rcases a j E N with ⟨I,J⟩|⟨rfl,rfl⟩
  .rw[k _ s]at e;rw[k _ I]at x
   exact o.inj i j D E p q h J e x y B
  .rw[k _ s]at e;rw[f]at x;cases x
   have:=o.block_lt h e;simp at B;omega
  .rw[k _ I]at x;rw[f]at e;cases e
   have:=o.block_lt J x;simp at B;omega
  .rfl
 .intro i p e
  by_cases h:i=H.length
  .subst h;simp
  .simp[Map.set,h]at e
   have:=o.dom i p e;simp;omega
 .intro g M
  have⟨n,O⟩:=o.glob g M;exact⟨n,m _ _ O⟩
 .intro i p e
  rw[iL,Array.size_push];by_cases h:i=H.length
  .subst h;rw[f]at e;cases e;exact Nat.lt_succ_self _
  .simp[Map.set,h]at e
   have:=o.plc i p e;omega
 .intro i d p t l
  rw[Heap.get_append_left<|o.dom i p t]at l;exact⟨d,l⟩
 .intro b y _;exact iX _ y
 .intro i p t e
  by_cases h:i=H.length
  .subst h;rw[f]at e;cases e;exact .inl<|Nat.le_refl _
  .simp[Map.set,h]at e
   rw[t]at e;simp at e
theorem Eff.alloc(b:HRel φ base G H w){arr:Array Value}{c:XV}(ty:TypeId)(a:c.length<=arr.size)(d:∀(j:Nat) v,c[j]?=some v->∃u,arr[j]?=some u/\VRel φ v u) :
  Eff φ base G lo H w (φ.set H.length ⟨w.heap.size,0,arr.size,0⟩) (H++[some c]) (w.alloc<|.cells arr ty)/\(φ.set H.length ⟨w.heap.size,0,arr.size,0⟩).c H.length=some ⟨w.heap.size,0,arr.size,0⟩:=
 Eff.allocF b ty (0,0) (.inl rfl) a d
structure OneTurned (w w':World)(b:Nat)(arr':Array Value):Prop where
 at_:∃arr ty fr,w.heap[b]?=some (.cells arr ty fr)/\w'.heap[b]?=some (.cells arr' ty fr)/\arr'.size=arr.size
 other:∀x,x≠b->w'.heap[x]?=w.heap[x]?
 size:w'.heap.size=w.heap.size
 os:w'.os=w.os
 out:w'.output=w.output
theorem OneTurned.frz{w':World}{b:Nat}{arr':Array Value}(h:OneTurned w w' b arr')(a:Addr):w'.frozen? a=w.frozen? a:=by grind[World.frozen?,at_,other]
def jH(b:Nat):∀(vs:XV) (o:Nat) (w:World) (arr:Array Value) (ty:TypeId) (a:Nat×Nat),w.heap[b]?=some (.cells arr ty a)->o+vs.length<=arr.size ->
  (w.setCells b o vs).heap[b]?=some (.cells (putCells arr.toList o vs).toArray ty a)/\(∀x,x≠b->(w.setCells b o vs).heap[x]?=w.heap[x]?) /\
  (w.setCells b o vs).heap.size=w.heap.size/\(w.setCells b o vs).os=w.os/\(w.setCells b o vs).output=w.output
 | [],o,w,arr,ty,a,h,c=>by
  simp[World.setCells,putCells,h]
 | v::vs,o,w,arr,ty,a,h,c=>by
  simp at c;have e:(w.setCell ⟨b,o,none⟩ v).heap[b]?=some (.cells (arr.setIfInBounds o v) ty a):=by
   grind[World.setCell]
  have⟨d,f,g,i,j⟩:=jH b vs (o+1) (w.setCell ⟨b,o,none⟩ v) (arr.setIfInBounds o v) ty a e Wr;refine⟨?_,?_,?_,?_,?_⟩
  .rw[World.setCells,d]
   have:=pJ o (v::vs) 0 arr byO
   grind[List.zipIdx_cons,pJ]
  all_goals grind[World.setCells,World.setCell]
theorem Eff.turn(k:HRel φ base G H w){i:Nat}{c c':XV}{p:Place}(o:H.get i=some c)(m:φ.c i=some p)(t:base<=i)(C:lo<=i){w':World}{arr':Array Value}
  (n:OneTurned w w' p.b arr') (hl:c'.length<=p.n) (hr:∀(j:Nat) v,c'[j]?=some v->∃u,arr'[p.s+j]?=some u/\VRel φ v u) :
  Eff φ base G lo H w φ (H.set i<|some c') w':=by
 have l:=Map.of_lt m;have Y:=Heap.get_lt o;have g:∀j d,Heap.get (H.set i<|some c') j=some d->(j=i/\d=c')\/(j≠i/\H.get j=some d):=by
  intro j d a;rw[Heap.get_set Y]at a;split at a
  next e=>simp at a;exact .inl ⟨e,a.symm⟩
  next e=>exact .inr ⟨e,a⟩
 have f:∀j d,Heap.get (H.set i<|some c') j=some d->∃O,H.get j=some O:=by
  intro j d a;rcases g j d a with ⟨rfl,_⟩|⟨_,h⟩
  .exact⟨c,o⟩
  .exact⟨d,h⟩
 have⟨arr,ty,U,t1,t2,K⟩:=n.at_;have⟨I,a0,V,J,S,e4,e5,T⟩:=k.cellC o m;rw[t1]at J;cases J;refine⟨Map.le_refl φ,⟨?_,?_,?_,k.glob,λi p l=>by rw[n.size];exact k.plc i p l⟩,⟨Wc,?_⟩,by rw[n.size];exact Nat.le_refl _,?_,?_,n.os,n.out⟩
 .intro j d a
  rcases g j d a with ⟨rfl,rfl⟩|⟨Z,h⟩
  .exact⟨p,l,.inl ⟨(Map.of_some.1 m).2,arr',ty,U,t2,by rw[K];exact S,hl,hr,λt=>by rw[K];exact T t⟩⟩
  .have⟨q,F,L⟩:=k.cell j d h
   have:q.b≠p.b:=λe=>Z (k.inj i j c d p q o h l F t e.symm).symm;exact⟨q,F,by rw[n.other _ this];exact L⟩
 .intro x y M N q r E hy s D z X
  have⟨Q,A⟩:=f x M E;have⟨R,B⟩:=f y N hy;exact k.inj x y Q R q r A B s D z X
 .intro x p l;have:=k.dom x p l;simpa using this
 .intro x d _ _ a;exact f x d a
 .intro b W hn
  exact n.other b λe=>hn i c p C o l e.symm
 .intro x q E s
  rw[E]at s;simp at s
theorem Eff.mark(k:HRel φ base G H w){i:Nat}{c:XV}{p:Place}(F:H.get i=some c)(o:φ.c i=some p)(y:lo<=i)(O:base<=i){arr:Array Value}{ty:TypeId}{u:Nat×Nat}(m:w.heap[p.b]?=some (.cells arr ty u)) :
  Eff φ base G lo H w φ H<|w.freeze ⟨p.b,arr.size,none⟩ 1:=by
 have A:=Map.of_lt o;have v:NoFrz arr.size u:=by
  have⟨D,U,N,E,Y,Z,e5,M⟩:=k.cellC F o;rw[m]at E;cases E;exact M O
 have⟨g,a⟩:=u;have B:∀x,(w.freeze ⟨p.b,arr.size,none⟩ 1).heap[x]?=if p.b=x then some (.cells arr ty (if g==a then(arr.size,arr.size+1) else(min g arr.size,max a<|arr.size+1))) else w.heap[x]?:=by
  intro x;simp[World.freeze,Nat.one_ne_zero,if_false,Array.getElem?_modify];by_cases h:p.b=x
  .subst h;simp[m]
  .simp[h]
 have z:NoFrz arr.size (if g==a then(arr.size,arr.size+1) else(min g arr.size,max a<|arr.size+1)):=by
  split
  .exact .inr<|Nat.le_refl _
  next n=>
   rcases v with h|h
   .simp at n;simp at h;exact absurd h n
   .right;simp at h ⊢;omega
 have r:(w.freeze ⟨p.b,arr.size,none⟩ 1).heap.size=w.heap.size:=by simp[World.freeze]
 refine⟨Map.le_refl φ,⟨?_,k.inj,k.dom,k.glob,λi p A=>by rw[r];exact k.plc i p A⟩,Heap.keeps_refl H,by rw[r];exact Nat.le_refl _,?_,λx q T I=>by rw[T]at I;simp at I,by simp[World.freeze],by simp[World.freeze]⟩
 .intro j d Q
  have⟨q,C,l⟩:=k.cell j d Q;by_cases h:p.b=q.b
  .rcases l with ⟨R,W,t,f,l,J,K,L,V⟩|⟨_,es,X,e,_⟩|⟨_,s,q',e,_⟩
   .rw[<-h,m]at l;cases l
    exact⟨q,C,.inl ⟨R,arr,ty,_,by rw[B,if_pos h],J,K,L,λ_=>z⟩⟩
   .rw[<-h,m]at e;cases e
   .rw[<-h,m]at e;cases e
  .exact⟨q,C,by rw[B,if_neg h];exact l⟩
 .intro b _ S
  rw[B,if_neg<|S i c p y F A]
theorem Eff.renew(z:HRel φ base G H w){i:Nat}{c c':XV}{p:Place}(E:H.get i=some c)(K:φ.c i=some p)(N:base<=i)(J:lo<=i){w':World}{arr':Array Value}{o:Nat}
  (F:OneTurned w w' p.b arr') (hl:o+c'.length<=p.n) (hr:∀(j:Nat) v,c'[j]?=some v->∃u,arr'[p.s+o+j]?=some u/\VRel φ v u) :
  Eff φ base G lo H w (φ.set H.length ⟨p.b,p.s+o,p.n-o,0⟩) (H.set i none++[some c']) w'/\(φ.set H.length ⟨p.b,p.s+o,p.n-o,0⟩).c H.length=some ⟨p.b,p.s+o,p.n-o,0⟩:=by
 have D:=Map.of_lt K;have hi:=Heap.get_lt E;have C:∀p,φ H.length≠some p:=λp D=>absurd (z.dom _ p D) byO;have A:=Map.le_set C ⟨p.b,p.s+o,p.n-o,0⟩;have a:(φ.set H.length ⟨p.b,p.s+o,p.n-o,0⟩) H.length=some ⟨p.b,p.s+o,p.n-o,0⟩:=XG
 have m:∀i,i<H.length->(φ.set H.length ⟨p.b,p.s+o,p.n-o,0⟩) i=φ i:=λi hi=>by simp[Map.set];omega
 have B:(H.set i none).length=H.length:=Wc
 have k:∀j d,Heap.get (H.set i none++[some c']) j=some d->(j=H.length/\d=c')\/(j≠i/\j<H.length/\H.get j=some d):=by
  intro j d s;by_cases M:j<H.length
  .rw[Heap.get_append_left (by rw[B];exact M),Heap.get_set hi]at s
   split at s
   .simp at s
   next e=>exact .inr ⟨e,M,s⟩
  .by_cases l:j=H.length
   .rw[l,<-B,Heap.get_append_right]at s
    simp at s;exact .inl ⟨l,s.symm⟩
   .rw[Heap.get_append_out Yi]at s;simp at s
 have⟨arr,ty,fr,t1,t2,t3⟩:=F.at_;have⟨V,e0,a0,W,e3,e4,e5,e6⟩:=z.cellC E K;rw[t1]at W;cases W;refine⟨⟨A,⟨?_,?_,?_,?_,?_⟩,⟨Wc,?_⟩,by rw[F.size];exact Nat.le_refl _,?_,?_,F.os,F.out⟩,Map.of_some.2 ⟨a,rfl⟩⟩
 .intro j d s
  rcases k j d s with ⟨rfl,rfl⟩|⟨hj,c0,h⟩
  .refine⟨_,a,.inl ⟨rfl,arr',ty,fr,t2,?_,?_,?_,λN=>by rw[t3];exact e6 byO⟩⟩
   .simp;omega
   .simp;omega
   .intro j v hv
    have⟨u,hu,T⟩:=hr j v hv;exact⟨u,hu,T.mono A⟩
  .have⟨q,U,a2⟩:=z.cell j d h
   have:q.b≠p.b:=λe=>hj (z.inj i j c d p q E h D U N e.symm).symm;exact⟨q,A _ _ U,by rw[F.other _ this];exact a2.mono A id⟩
 .intro x y O Q q r L hy f t R I
  rcases k x O L with ⟨rfl,rfl⟩|⟨M,l,X⟩<;>rcases k y Q hy with ⟨rfl,rfl⟩|⟨h4,Y,Z⟩
  .rfl
  .rw[a]at f;cases f
   rw[m _ Y]at t;simp at I;exact absurd (z.inj i y c Q p r E Z D t N I).symm h4
  .rw[a]at t;cases t
   rw[m _ l]at f;simp at I;exact absurd (z.inj i x c O p q E X D f N I.symm).symm M
  .rw[m _ l]at f;rw[m _ Y]at t
   exact z.inj x y O Q q r X Z f t R I
 .intro x p D
  by_cases l:x=H.length
  .subst l;simp
  .simp[Map.set,l]at D
   have:=z.dom x p D;simp;omega
 .intro g hg
  have⟨n,S⟩:=z.glob g hg;exact⟨n,A _ _ S⟩
 .intro x q f
  rw[F.size];by_cases l:x=H.length
  .subst l;rw[a]at f;cases f;exact z.plc i p D
  .simp[Map.set,l]at f
   exact z.plc x q f
 .intro x d p L s
  rcases k x d s with ⟨rfl,_⟩|⟨_,_,h⟩
  .exact absurd L<|C p
  .exact⟨d,h⟩
 .intro b b0 S
  exact F.other b λe=>S i c p J E D e.symm
 .intro x q L f
  by_cases l:x=H.length
  .subst l;rw[a]at f;cases f;exact .inr ⟨i,c,p,J,E,D,rfl⟩
  .simp[Map.set,l]at f
   rw[L]at f;simp at f
def p5(z:HRel φ base G H w)(E:base<=lo){i a:Nat}{vs b:XV}{H':Heap}{p:Place}(d:H.put lo i a vs=some H')(C:φ.c i=some p)(r:LRel φ vs b)(k:oneCells vs=true) :
  (storeCells ⟨p.b,p.s+a,none⟩ b).run P w=.ok () (w.setCells p.b (p.s+a) b)/\Eff φ base G lo H w φ H' (w.setCells p.b (p.s+a) b):=by
 unfold Heap.put at d;split at d
 next c A=>
  split at d
  next g=>
   have⟨n,B⟩:=g;simp at d;subst d;have⟨arr,ty,t,h,M,N,s,D⟩:=z.cellC A C;have m:b.length=vs.length:=r.1.symm;have l:p.s+a+b.length<=arr.size:=byO;have f:=run_storeCells_cells (P:=P) p.b (p.s+a) b 0 w (λj e=>by
     simp[World.cell?,h];omega) (λj e=>by
     have:=(D byO).not (p.s+a+j) byO;simp[World.frozen?,h,Nat.add_zero];simp at this ⊢;omega)<|r.oneCells k
   simp[Nat.add_zero]at f;have⟨F,I,J,K,L⟩:=jH p.b b (p.s+a) w arr ty t h l;refine⟨f,Eff.turn z A C byO n (arr':=(putCells arr.toList (p.s+a) b).toArray) ⟨⟨arr,ty,t,h,F,?_⟩,I,J,K,L⟩ ?_ ?_⟩
   .simp[putCells];omega
   .simp[putCells];omega
   .intro j v e
    simp[putCells,List.getElem?_append,List.getElem?_take,List.length_take,List.getElem?_drop]at e;rw[Nat.min_eq_left (show a<=c.length by omega)]at e;split at e
    next k=>
     have⟨u,q,o⟩:=s j v e;refine⟨u,?_,o⟩;simp[putCells,aj₀,List.getElem?_append,List.getElem?_take,List.length_take,Array.length_toList];rw[Nat.min_eq_left byO,if_pos byO,if_pos byO];simpa using q
    next k=>
     split at e
     next x=>
      have y:j-a<b.length:=by rw[m];exact x
      refine⟨b[j-a],?_,r.2 (j-a) v _ e<|bc₀ y⟩;simp[putCells,aj₀,List.getElem?_append,List.length_take,Array.length_toList];rw[Nat.min_eq_left byO,if_neg byO,if_pos byO];rw[show p.s+j-(p.s+a)=j-a by omega];exact bc₀ y
     next x=>
      rw[show a+vs.length+(j-a-vs.length)=j by omega]at e;have⟨u,q,o⟩:=s j v e;refine⟨u,?_,o⟩;simp[putCells,aj₀,List.getElem?_append,List.length_take,List.getElem?_drop,Array.length_toList];rw[Nat.min_eq_left byO,if_neg byO,if_neg byO];rw[show p.s+a+b.length+(p.s+j-(p.s+a)-b.length)=p.s+j by omega];simpa using q
  .simp at d
 .simp at d
theorem Eff.allocO(s:HRel φ base G H w){o:Obj}{c:XV}{k:Nat}(L:Odd φ k c<|some o) :
  Eff φ base G lo H w (φ.set H.length ⟨w.heap.size,0,0,k⟩) (H++[some c]) (w.alloc o)/\(φ.set H.length ⟨w.heap.size,0,0,k⟩).of k H.length=some ⟨w.heap.size,0,0,k⟩:=by
 have t:∀p,φ H.length≠some p:=λp e=>absurd (s.dom _ p e) byO;have r:=Map.le_set t ⟨w.heap.size,0,0,k⟩;have f:(φ.set H.length ⟨w.heap.size,0,0,k⟩) H.length=some ⟨w.heap.size,0,0,k⟩:=XG
 have l:∀i,i<H.length->(φ.set H.length ⟨w.heap.size,0,0,k⟩) i=φ i:=λi v=>by simp[Map.set];omega
 have a:∀i d,Heap.get (H++[some c]) i=some d->(i<H.length/\H.get i=some d)\/(i=H.length/\d=c):=by
  intro i d m;by_cases u:i<H.length
  .rw[Heap.get_append_left u]at m;exact .inl ⟨u,m⟩
  .by_cases h:i=H.length
   .subst h;rw[Heap.get_append_right]at m;cases m;exact .inr ⟨rfl,rfl⟩
   .rw[Heap.get_append_out byO]at m;simp at m
 refine⟨⟨r,⟨?_,?_,?_,?_,?_⟩,⟨Wc,?_⟩,by rw[iL];simp,?_,?_,rfl,rfl⟩,Map.of_some.2 ⟨f,rfl⟩⟩
 .intro i d m
  rcases a i d m with ⟨u,h⟩|⟨rfl,rfl⟩
  .have⟨p,C,F⟩:=s.cell i d h
   have y:=s.block_lt h C;exact⟨p,r _ _ C,by rw[iX _ y];exact F.mono r id⟩
  .exact⟨_,f,.inr (by rw[m9];exact L.mono r)⟩
 .intro i j A B p q v J e x y z
  rcases a i A v with ⟨u,h⟩|⟨rfl,rfl⟩<;>rcases a j B J with ⟨D,E⟩|⟨rfl,rfl⟩
  .rw[l _ u]at e;rw[l _ D]at x
   exact s.inj i j A B p q h E e x y z
  .rw[l _ u]at e;rw[f]at x;cases x
   have:=s.block_lt h e;simp at z;omega
  .rw[l _ D]at x;rw[f]at e;cases e
   have:=s.block_lt E x;simp at z;omega
  .rfl
 .intro i p e
  by_cases h:i=H.length
  .subst h;simp
  .simp[Map.set,h]at e
   have:=s.dom i p e;simp;omega
 .intro g I
  have⟨n,K⟩:=s.glob g I;exact⟨n,r _ _ K⟩
 .intro i p e
  rw[iL,Array.size_push];by_cases h:i=H.length
  .subst h;rw[f]at e;cases e;exact Nat.lt_succ_self _
  .simp[Map.set,h]at e
   have:=s.plc i p e;omega
 .intro i d p v m
  rw[Heap.get_append_left<|s.dom i p v]at m;exact⟨d,m⟩
 .intro b y _;exact iX _ y
 .intro i p v e
  by_cases h:i=H.length
  .subst h;rw[f]at e;cases e;exact .inl<|Nat.le_refl _
  .simp[Map.set,h]at e
   rw[v]at e;simp at e
theorem Eff.turnO(n:HRel φ base G H w){i k:Nat}{c c':XV}{p:Place}(t:H.get i=some c)(F:φ.of k i=some p)(Z:k≠0)(R:base<=i)(D:lo<=i){o:Obj}(X:Odd φ k c'<|some o) :
  Eff φ base G lo H w φ (H.set i<|some c') { w with heap:=w.heap.setIfInBounds p.b o }:=by
 have⟨m,C⟩:=Map.of_some.1 F;have U:=Heap.get_lt t;have E:=n.plc i p m;have v:(w.heap.setIfInBounds p.b o)[p.b]?=some o:=by simp[E]
 have l:∀x,x≠p.b->(w.heap.setIfInBounds p.b o)[x]?=w.heap[x]?:=λx s=>by simp[Ne.symm s]
 have g:∀j d,Heap.get (H.set i<|some c') j=some d->(j=i/\d=c')\/(j≠i/\H.get j=some d):=by
  intro j d a;rw[Heap.get_set U]at a;split at a
  next e=>simp at a;exact .inl ⟨e,a.symm⟩
  next e=>exact .inr ⟨e,a⟩
 have f:∀j d,Heap.get (H.set i<|some c') j=some d->∃N,H.get j=some N:=by
  intro j d a;rcases g j d a with ⟨rfl,_⟩|⟨_,h⟩
  .exact⟨c,t⟩
  .exact⟨d,h⟩
 refine⟨Map.le_refl φ,⟨?_,?_,?_,n.glob,λi p m=>by simpa using n.plc i p m⟩,⟨Wc,?_⟩,Wc,?_,?_,rfl,rfl⟩
 .intro j d a
  rcases g j d a with ⟨rfl,rfl⟩|⟨V,h⟩
  .exact⟨p,m,.inr (by rw[C];simp only;rw[v];exact X)⟩
  .have⟨q,J,K⟩:=n.cell j d h
   have:q.b≠p.b:=λe=>V (n.inj i j c d p q t h m J R e.symm).symm;exact⟨q,J,by simp only;rw[l _ this];exact K⟩
 .intro x y L M q r s Y u I z T
  have⟨O,A⟩:=f x L s;have⟨Q,B⟩:=f y M Y;exact n.inj x y O Q q r A B u I z T
 .intro x p m;have:=n.dom x p m;simpa using this
 .intro x d _ _ a;exact f x d a
 .intro b S W
  exact l b λe=>W i c p D t m e.symm
 .intro x q s u
  rw[s]at u;simp at u
end
section
variable {P:Program}{φ:Map}{base G lo:Nat}{H:Heap}{w:World}
theorem Eff.drop(b:HRel φ base G H w){i:Nat}(l:i<H.length):Eff φ base G lo H w φ (H.set i none) w:=by
 have a:∀j d,Heap.get (H.set i none) j=some d->H.get j=some d:=by
  grind[Heap.get_set]
 exact⟨Map.le_refl φ,⟨λj d c=>b.cell j d<|a j d c,λx y e f q r g k=>b.inj x y e f q r (a x e g)<|a y f k,λx p h=>by have:=b.dom x p h;simp_all,b.glob,b.plc⟩,
  ⟨Wc,λx d _ _ c=>⟨d,a x d c⟩⟩,Nat.le_refl _,λ_ _ _=>rfl,λx q g m=>by simp_all,rfl,rfl⟩
theorem mB(z:XV)(n:Nat):(bK z n).length=n*z.length:=by simp_all[bK]
theorem xE(z:XV):∀(n j:Nat),(bK z n)[j]?=if j<n*z.length then z[j%z.length]? else none
 | 0,j=>by simp[bK]
 | n+1,j=>by
  have e:bK z (n+1)=z++bK z n:=by simp[bK,List.replicate_succ]
  rw[e,List.getElem?_append];by_cases h:j<z.length
  .rw[if_pos h,if_pos (by rw[Nat.add_mul];omega),Nat.mod_eq_of_lt h]
  .rw[if_neg h,xE z n]
   have a:(j-z.length<n*z.length)↔(j<(n+1)*z.length):=by rw[Nat.add_mul];omega
   simp[a];split
   .rw[<-Nat.mod_eq_sub_mod byO]
   .rfl
def jd{z:XV}(a:z.all bU=true)(n:Nat):LRel φ (bK z n)<|bK z n:=by grind[cK,bK]
theorem nv(z:Array Value)(n m:Nat)(a:m=n*z.size)(b:0<z.size):((Array.range m).map λi=>z[i%z.size]!)=(bK z.toList n).toArray:=by
 apply Array.ext_getElem?
 grind[xE,mB]
def wE(a:Nat):∀(r c:Nat),c<=2*a+1000->Builtin.growBy a r c<=2*a+1000
 | 0,c,h=>h
 | r+1,c,h=>by
  unfold Builtin.growBy;split
  .exact h
  .exact wE a r _ byO
def BW{a b:Nat}(h:b<a):Builtin.nextslicecap a b<=2*a+1000:=by
 unfold Builtin.nextslicecap;split
 .omega
 .split
  .omega
  .exact wE a 4 b byO
theorem LRel.cellsOf{l l':XV}(h:LRel φ l l'):∀(j:Nat) v,l[j]?=some v->∃u,l'.toArray[j]?=some u/\VRel φ v u:=by
 intro j v b;have a:j<l'.length:=by rw[<-h.1];grind
 exact⟨l'[j],by simp[a],h.2 j v _ b<|bc₀ a⟩
def py(hH:HRel φ base G H w)(g1:base<=lo){sT xT ty e:TypeId}{sz:Nat}{z:XV}(hu:P.underlying sT=some (.slice e))
  (b0:fB P e=some sz) (hz:zeroOf P e=some z) (Z1:0<sz) (y1:z.length=sz) (y0:kL P e=true) {s s' x':Value} {n:Nat} {new new':XV} (hs:VRel φ s s') (hn:new.length=n*sz) (y:LRel φ new new') (h1:oneCells new=true)
  (I:(((∃d,P.underlying xT=some (.slice d))\/P.underlying xT=some .string)/\(∀f:World,(Builtin.lenOf x').run P f=.ok n f)/\∀f:World,f.heap=w.heap->(Builtin.firstCells sz n x').run P f=.ok new'.toArray f) \/
   ∃ik k',P.underlying xT=some (.int ik)/\x'=.int k' (n:Int)/\n<=1048576/\new'=bK z n) {v:Value} {H':Heap}
  (m:aV lo sz s new n H=some (v,H')) :
  ∃cv w' x,(Builtin.append_ #[sT,xT] ty #[s',x']).run P w=.ok cv w'/\Eff φ base G lo H w x H' w'/\VRel x v cv:=by
 obtain⟨q,zv,hi,a1,O,Z0,X1⟩:=fG hz;have W:q.bytes<=4096:=by simpa[kL,hi]using y0
 have Y1:q.size=sz:=by rw[<-Z0,y1]
 have x1:zv.cells.size=sz:=by have:=congrArg List.length O;simp at this;omega
 have W1:zv.cells=z.toArray:=by rw[<-O]
 have U:n<=1048576->IntKind.i64.wrap (n:Int)=(n:Int)/\¬ ((n:Int)<0)/\¬ ((n:Int)*(q.bytes:Int)>2^48):=by
  intro h;have h3:n*q.bytes<=1048576*4096:=Nat.mul_le_mul h W;have h4:(n:Int)*(q.bytes:Int)=((n*q.bytes:Nat):Int):=Wc
  refine⟨?_,byO,byO⟩;simp[IntKind.wrap,IntKind.bits,IntKind.signed];omega
 have g:new'=bK z n->∀f:World,(if n*sz=0 then(Result.ok #[] f:Result<|Array Value) else Result.ok (Builtin.zeroCells zv.cells n) f)=.ok new'.toArray f:=by
  rintro rfl f;by_cases h0:n*sz=0
  .have:n=0:=Xq
   subst this;rw[if_pos h0];simp[bK]
  .rw[if_neg h0]
   unfold Builtin.zeroCells;rw[nv zv.cells n _ rfl byO,O]
 have V:∀(e0:Option Addr) (len l:Nat) (k b:XV),s'=.slice e0 len l->l<len+n->len+n<=cT->k.length=len*sz->LRel φ k b ->
   (∀f:World,f.heap=w.heap->(Builtin.firstCells sz len s').run P f=.ok b.toArray f) ->
   ∃cv w',(Builtin.append_ #[sT,xT] ty #[s',x']).run P w=.ok cv w'/\∃x,Eff φ base G lo H w x (H++[some<|k++new]) w'/\VRel x (.slice (some ⟨H.length,0,some sz⟩) (len+n)<|len+n) cv:=by
  intro e0 len l k b s0 X q0 o1 p1 S1;obtain⟨K,hK⟩:∃K,K=(Question.appendCap (len+n) l e).cut (w.tape w.drawn<|.appendCap (len+n) l e):=⟨_,rfl⟩;have z0:len+n<=K:=XY
  have u1:Builtin.zeroCells zv.cells (K-(len+n))=(bK z<|K-(len+n)).toArray:=by
   unfold Builtin.zeroCells;rw[nv zv.cells (K-(len+n)) _ rfl byO,O]
  let arr:Array Value:=(b++new'++bK z (K-(len+n))).toArray
  have b1:arr.size=K*sz:=by
   simp[arr,mB,<-p1.1,<-y.1,o1,hn,y1];rw[<-Nat.add_mul,<-Nat.add_mul];congr 1;omega
  have r1:LRel φ (k++new++bK z (K-(len+n)))<|b++new'++bK z (K-(len+n)):=(p1.append y).append<|jd X1 _;obtain⟨X0,F⟩:=Eff.alloc (lo:=lo) (w:={ w with drawn:=w.drawn+1 }) (hH.congr (w':={ w with drawn:=w.drawn+1 }) rfl) (arr:=arr) (c:=k++new) e
   (by rw[b1,as₀,o1,hn,<-Nat.add_mul];exact Nat.mul_le_mul_right _ z0)
   (λj v Z=>r1.cellsOf j v (by rw[ax₀ (List.getElem?_eq_some_iff.1 Z).1];exact Z))
  refine⟨.slice (some ⟨w.heap.size,0,none⟩) (len+n) K,_,?_,_,Eff.of_drawn X0,?_⟩
  .have hb:¬ (Builtin.nextslicecap (len+n) l*q.bytes>2^48):=by
    have h2:=BW X;have h3:Builtin.nextslicecap (len+n) l*q.bytes<=(2*(len+n)+1000)*4096:=Nat.mul_le_mul h2 W;unfold cT at q0;omega
   have H0:¬ (((len+n:Nat):Int)>IntKind.i64.max):=by
    have:IntKind.i64.max=9223372036854775807:=Wd
    rw[this];unfold cT at q0;omega
   subst s0;have j0:¬ (len+n<=l):=byO;have c0:∀f:World,(typeInfo e).run P f=.ok q f:=λf=>by simp[typeInfo,hi]
   have E:∀f:World,(zeroValue e).run P f=.ok zv f:=λf=>bP hi a1;have j1:(choose<|.appendCap (len+n) l e).run P w=.ok K { w with drawn:=w.drawn+1 }:=by
    rw[hK];simp[Question.forced]
   have m1:∀f:World,(newRow e arr).run P f=.ok ⟨f.heap.size,0,none⟩ (f.alloc<|.cells arr e):=λf=>rfl;have g0:b.toArray++new'.toArray++Builtin.zeroCells zv.cells (K-(len+n))=arr:=by rw[u1];simp[arr]
   have S0:=S1 { w with drawn:=w.drawn+1 } rfl;have A:¬ (((len+n:Nat):Int)>IntKind.i64.max/\(false=true\/q.bytes=0)):=λh=>H0 h.1;rcases I with ⟨I,M,t⟩|⟨ik,k',Y,x0,N,r0⟩
   .have l0:=t { w with drawn:=w.drawn+1 } rfl
    rcases I with ⟨d,Y⟩|Y<;>
    .simp only[Builtin.append_,aj₀,List.getElem?_cons_zero,List.getElem?_cons_succ,Sem.run_bind,run_underlying hu,Result.andThen_ok,aW b0,run_underlying Y,Sem.run_pure]
     simp only[Sem.run_ite,ah₀,if_false,Sem.run_bind,M,Result.andThen_ok,if_neg j0,c0];rw[if_neg (by simpa using A)];simp only[Result.andThen_ok,if_neg hb,j1,run_askRoom,S0,Bool.not_false,if_true,l0,E,g0,m1,Sem.run_pure]
   .subst x0
    obtain⟨q1,q2,q3⟩:=U N;have C:=g r0 { w with drawn:=w.drawn+1 };simp only[Builtin.append_,aj₀,List.getElem?_cons_zero,List.getElem?_cons_succ,Sem.run_bind,run_underlying hu,Result.andThen_ok,aW b0,run_underlying Y,Sem.run_pure];simp only[Sem.run_ite,if_true,Sem.run_bind,asInt,asIntOf,Sem.run_pure,Result.andThen_ok,q1,if_neg q2,c0,if_neg q3,Int.toNat_natCast,if_neg j0];rw[if_neg (by simpa using H0)];simp only[Result.andThen_ok,if_neg hb,j1,run_askRoom,S0,Bool.not_true,ah₀,if_false,C,E,g0,m1,Sem.run_pure]
  .refine .sliceIn H.length 0 (len+n) (len+n) sz _ 0 K F z0 (Nat.le_refl _) (.inl rfl) ?_
   simp;omega
 have u:∀(a:Addr) (len l:Nat) (w':World),s'=.slice (some a) len l->len+n<=l->(storeCells (a.add<|len*sz) new').run P w=.ok () w' ->
   (Builtin.append_ #[sT,xT] ty #[s',x']).run P w=.ok (.slice (some a) (len+n) l) w':=by
  intro a len l w' s0 X w1;subst s0;rcases I with ⟨I,M,t⟩|⟨ik,k',Y,x0,N,r0⟩
  .rcases I with ⟨d,Y⟩|Y<;>
   .simp[Builtin.append_,aj₀,List.getElem?_cons_zero,List.getElem?_cons_succ,Sem.run_bind,run_underlying hu,Result.andThen_ok,aW b0,run_underlying Y,Sem.run_pure]
    simp only[Sem.run_ite,ah₀,if_false,Sem.run_bind,M,Result.andThen_ok,if_pos X,Bool.not_false,if_true,t _ rfl,w1,Sem.run_pure]
  .subst x0
   obtain⟨q1,q2,q3⟩:=U N;have c0:∀f:World,(typeInfo e).run P f=.ok q f:=λf=>by simp[typeInfo,hi]
   have C:=g r0 w;have E:∀f:World,(zeroValue e).run P f=.ok zv f:=λf=>bP hi a1;simp only[Builtin.append_,aj₀,List.getElem?_cons_zero,List.getElem?_cons_succ,Sem.run_bind,run_underlying hu,Result.andThen_ok,aW b0,run_underlying Y,Sem.run_pure];simp only[Sem.run_ite,if_true,Sem.run_bind,asInt,asIntOf,Sem.run_pure,Result.andThen_ok,q1,if_neg q2,c0,if_neg q3,Int.toNat_natCast,if_pos X,Bool.not_true,ah₀,if_false,E,C,w1]
 have D:∀(i o len o' c':Nat) (p:Place) (k:XV),φ.c i=some p->(o'=o\/len=0)->H.cells i o (len*sz)=some k->s'=.slice (some ⟨p.b,p.s+o',none⟩) len c' ->
   k.length=len*sz/\∃b,LRel φ k b/\(∀f:World,f.heap=w.heap->(Builtin.firstCells sz len s').run P f=.ok b.toArray f)/\(∀(j:Nat) v,b[j]?=some v->w.cell? ((⟨p.b,p.s+o,none⟩:Addr).add j)=some v):=by
  intro i o len o' c' p k hp ho hc s0;obtain⟨S,b,L,e3⟩:=hH.crel.cells hc hp;refine⟨S,b,L,λf T1=>?_,e3⟩;subst s0;have e4:∀(j:Nat) v,b[j]?=some v->f.cell? ((⟨p.b,p.s+o',none⟩:Addr).add j)=some v:=by
   intro j v Z;have h5:=e3 j v Z;rcases ho with rfl|rfl
   .unfold World.cell? at h5 ⊢;rw[T1];exact h5
   .have:b=[]:=List.eq_nil_of_length_eq_zero (by rw[<-L.1,S];simp)
    subst this;simp at Z
  have:=run_loadCells_list (P:=P) f ⟨p.b,p.s+o',none⟩ b e4;rw[<-L.1,S]at this;simpa[Builtin.firstCells]using this
 have J:new'.length=n*sz:=by rw[<-y.1,hn]
 unfold aV at m;cases hs with
 | nilSlice len R=>
  simp only at m;split at m
  next B=>
   simp at m;obtain⟨rfl,rfl⟩:=m;refine⟨.slice none (len+n) R,w,φ,?_,Eff.refl hH,.nilSlice _ _⟩;rcases I with ⟨I,M,t⟩|⟨ik,k',Y,x0,N,r0⟩
   .rcases I with ⟨d,Y⟩|Y<;>
    .simp only[Builtin.append_,aj₀,List.getElem?_cons_zero,List.getElem?_cons_succ,Sem.run_bind,run_underlying hu,Result.andThen_ok,aW b0,run_underlying Y,Sem.run_pure]
     simp only[Sem.run_ite,ah₀,if_false,Sem.run_bind,M,Result.andThen_ok,if_pos B,Bool.not_false,if_true,t _ rfl,Sem.run_pure]
   .subst x0
    obtain⟨q1,q2,q3⟩:=U N;have c0:∀f:World,(typeInfo e).run P f=.ok q f:=λf=>by simp[typeInfo,hi]
    have C:=g r0 w;have E:∀f:World,(zeroValue e).run P f=.ok zv f:=λf=>bP hi a1;simp only[Builtin.append_,aj₀,List.getElem?_cons_zero,List.getElem?_cons_succ,Sem.run_bind,run_underlying hu,Result.andThen_ok,aW b0,run_underlying Y,Sem.run_pure];simp only[Sem.run_ite,if_true,Sem.run_bind,asInt,asIntOf,Sem.run_pure,Result.andThen_ok,q1,if_neg q2,c0,if_neg q3,Int.toNat_natCast,if_pos B,Bool.not_true,ah₀,if_false,E,C]
  next B=>
   split at m
   .simp at m
   next hm=>
    split at m
    .rename_i h0;subst h0
     simp at m;obtain⟨rfl,rfl⟩:=m;obtain⟨cv,w',S,x,L,e3⟩:=V none 0 R [] [] rfl byO byO Wc (LRel.nil φ) (λf _=>by simp[Builtin.firstCells]);refine⟨cv,w',x,S,by simpa using L,by simpa using e3⟩
    .simp at m
 | slice i o len R p hp=>
  simp only at m;split at m
  next B=>
   simp only[true_or,if_true,aa₀,ad₀]at m;obtain⟨H1,g,rfl,rfl⟩:=m;obtain⟨S,L⟩:=p5 (P:=P) hH g1 g hp y h1;refine⟨_,_,φ,u ⟨p.b,p.s+o,none⟩ len R _ rfl B ?_,L,.slice i o _ _ p hp⟩;rw[de,Nat.add_assoc];exact S
  next B=>
   split at m
   .simp at m
   next hm=>
    simp only[aa₀,ad₀]at m;obtain⟨k,r,rfl,rfl⟩:=m;obtain⟨f1,b,f2,f3,_⟩:=D i o len o R p k hp (.inl rfl) r rfl;obtain⟨cv,w',S,x,L,e3⟩:=V (some ⟨p.b,p.s+o,none⟩) len R k b rfl byO byO f1 f2 f3;exact⟨cv,w',x,S,L,e3⟩
 | sliceIn i o len R Q p o' c' hp hc hl ho K1=>
  simp only at m;split at m
  next B=>
   split at m
   next O=>
    have O:Q=sz:=by simpa using O
    subst O;simp only[aa₀,ad₀]at m;obtain⟨H1,g,rfl,rfl⟩:=m;obtain⟨S,L⟩:=p5 (P:=P) hH g1 g hp y h1;refine⟨_,_,φ,u ⟨p.b,p.s+o',none⟩ len c' _ rfl byO ?_,L,.sliceIn i o _ _ Q p o' c' hp hc B ho K1⟩;rcases ho with rfl|h0
    .rw[de,Nat.add_assoc];exact S
    .have:new'=[]:=List.eq_nil_of_length_eq_zero (by rw[J];rw[show n=0 by omega];simp)
     subst this;rfl
   .simp at m
  next B=>
   split at m
   .simp at m
   next hm=>
    split at m
    next A=>
     obtain⟨rfl,k1⟩:=A;simp only[aa₀,ad₀]at m;obtain⟨k,r,rfl,rfl⟩:=m;obtain⟨f1,b,f2,f3,f4⟩:=D i o len o' c' p k hp (ho.imp id λe=>by omega) r rfl;obtain⟨c,a0⟩:=Heap.cells_get r;by_cases o0:len+n<=c'
     .obtain⟨arr,z1,fr,b2,b3,b4,b5,b6⟩:=hH.cellC a0 hp
      have Y0:(len+n)*Q<=c'*Q:=Nat.mul_le_mul_right _ o0;rw[Nat.add_mul]at Y0;have B1:p.s+(o'+len*Q)+new'.length<=arr.size:=by rw[J];omega
      have T0:=run_storeCells_cells (P:=P) p.b (p.s+(o'+len*Q)) new' 0 w (λj hj=>by
        simp[World.cell?,b2];omega) (λj hj=>by
        have:=(b6 byO).not (p.s+(o'+len*Q)+j) byO;simp only[World.frozen?,b2,Nat.add_zero];simp at this ⊢;omega)<|y.oneCells h1
      simp only[Nat.add_zero]at T0;obtain⟨t1,t2,t3,t4,t5⟩:=jH p.b new' (p.s+(o'+len*Q)) w arr z1 fr b2 B1;obtain⟨X0,F⟩:=Eff.renew (lo:=lo) hH a0 hp byO k1 (w':=w.setCells p.b (p.s+(o'+len*Q)) new') (arr':=(putCells arr.toList (p.s+(o'+len*Q)) new').toArray) (o:=o') (c':=k++new)
       ⟨⟨arr,z1,fr,b2,t1,by simp[putCells];omega⟩,t2,t3,t4,t5⟩ (by rw[as₀,f1,hn];omega) (λj v Z=>by
        rw[List.getElem?_append]at Z;simp only[putCells,aj₀,List.getElem?_append,List.getElem?_take,List.length_take,Array.length_toList];rw[Nat.min_eq_left byO];split at Z
        next hj=>
         rw[f1]at hj;have L1:o'=o:=by
          rcases ho with h|h
          .exact h
          .exfalso
           have:len=0:=byO;subst this;simp at hj
         subst L1;rw[if_pos byO,if_pos byO];have T:j<b.length:=by rw[<-f2.1,f1];exact hj
         have:=f4 j _<|bc₀ T;rw[de]at this;simp only[World.cell?,b2,Option.isSome_none,ah₀,if_false]at this;refine⟨b[j],?_,f2.2 j v _ Z<|bc₀ T⟩;rw[Array.getElem?_toList];exact this
        next hj=>
         rw[f1]at hj Z;have T:j-len*Q<new'.length:=by rw[<-y.1];exact(List.getElem?_eq_some_iff.1 Z).1
         rw[if_neg byO,if_pos byO];refine⟨new'[j-len*Q],?_,y.2 _ v _ Z<|bc₀ T⟩;rw[show p.s+o'+j-(p.s+(o'+len*Q))=j-len*Q by omega];exact bc₀ T)
      refine⟨_,_,_,u ⟨p.b,p.s+o',none⟩ len c' _ rfl o0 (by rw[de,Nat.add_assoc];exact T0),X0,?_⟩;have:=VRel.sliceIn (φ:=φ.set H.length ⟨p.b,p.s+o',p.n-o',0⟩) H.length 0 (len+n) (len+n) Q _ 0 c' F o0 (Nat.le_refl _) (.inl rfl) Wr;simpa using this
     .obtain⟨cv,w',S,x,L,e3⟩:=V (some ⟨p.b,p.s+o',none⟩) len c' k b rfl byO byO f1 f2 f3
      have hi:=Heap.get_lt a0;have w0:(H++[some<|k++new]).set i none=H.set i none++[some<|k++new]:=List.set_append_left _ _ hi;refine⟨cv,w',x,S,?_,e3⟩;rw[<-w0];exact Eff.trans L<|Eff.drop L.rel Wr
    .simp at m
 | empty i o Q p a hp=>
  simp only at m;split at m
  next B=>
   obtain rfl:n=0:=byO;have F1:new=[]:=List.eq_nil_of_length_eq_zero (by rw[hn];simp);have G1:new'=[]:=List.eq_nil_of_length_eq_zero (by rw[J];simp);subst F1 G1;split at m
   .simp only[aa₀,ad₀]at m
    obtain⟨H1,g,rfl,rfl⟩:=m;have A1:H1=H:=by
     unfold Heap.put at g;split at g
     next c hc=>
      split at g
      .simp only[ab₀]at g
       rw[<-g];have:putCells c (o+0*sz) []=c:=XM
       rw[this];refine List.ext_getElem? λj=>?_;rw[List.getElem?_set];split
       next e=>
        subst e;have T:=Heap.get_lt hc;rw[if_pos T];unfold Heap.get at hc;split at hc
        next e=>simp at hc;subst hc;exact e.symm
        .simp at hc
       .rfl
      .simp at g
     .simp at g
    subst A1;exact⟨_,w,φ,u a 0 0 _ rfl byO rfl,Eff.refl hH,.empty i o Q p a hp⟩
   .simp at m
  next B=>
   split at m
   .simp at m
   next hm=>
    split at m
    next A=>
     obtain⟨rfl,k1⟩:=A;simp only[aa₀,ad₀]at m;obtain⟨k,r,rfl,rfl⟩:=m;obtain⟨c,a0⟩:=Heap.cells_get r;have h0:k=[]:=by
      unfold Heap.cells at r;rw[a0]at r;simp at r;exact r.2
     subst h0;obtain⟨cv,w',S,x,L,e3⟩:=V (some a) 0 0 [] [] rfl byO byO Wc (LRel.nil φ) (λf _=>by
      have:=run_loadCells_list (P:=P) f a [] (λj v Z=>by simp at Z);simpa[Builtin.firstCells]using this)
     have hi:=Heap.get_lt a0;have w0:(H++[some<|[]++new]).set i none=H.set i none++[some<|[]++new]:=List.set_append_left _ _ hi;refine⟨cv,w',x,S,?_,e3⟩;rw[<-w0];exact Eff.trans L<|Eff.drop L.rel Wr
    .simp at m
 | _=>simp at m
end
section
variable {P:Program}{φ:Map}{base G lo:Nat}{H:Heap}{w:World}
def HOp.isCall:HOp->Bool
 | .call _ | .callC | .callK _=>true
 | _=>false
def OW(cv:Value)(nx:Next):Prop:=nx=.value cv\/(nx=.skip/\cv=undef)
theorem DD(f:Nat->Value):(Array.range 0).map f=#[]:=Wx
def fu:VRel φ undef undef:=.tuple _ _ rfl (λj x y a=>by simp at a)
def ni{v c:Value}(h:VRel φ v c):∀a l k,v=.slice (some a) l k->∃a' f,c=.slice (some a') l f/\(l=0\/∃p o',φ.c a.block=some p/\a'=⟨p.b,p.s+o',none⟩/\(o'=a.off\/l=0)):=by
 intro a l k e;cases h<;>simp at e
 next i o l' c' p b=>obtain⟨rfl,rfl,rfl⟩:=e;simp_all
 next i o l' g z p o' c' b j m d n=>obtain⟨rfl,rfl,rfl⟩:=e;grind
 simp_all
def EA{H:Heap}{i o n:Nat}{l:XV}(h:H.cells i o n=some l)(a:n=0):l=[]:=by
 grind[Heap.cells]
def Lr{H f:Heap}{lo i o:Nat}(a:H.put lo i o []=some f):f=H:=by
 unfold Heap.put at a;split at a
 next c b=>
  split at a
  .have:putCells c o []=c:=XM
   refine List.ext_getElem? λj=>?_;grind[Heap.get]
  .simp at a
 .simp at a
def oJ(r:HRel φ base G H w){a:Addr}{n m sz:Nat}{k:Nat}{c:Value}{l:XV}(d:VRel φ (.slice (some a) n k) c)(y:m<=n)(i:H.cells a.block a.off (m*sz)=some l) :
  l.length=m*sz/\∃l',LRel φ l l'/\∀b:World,b.heap=w.heap->(Builtin.firstCells sz m c).run P b=.ok l'.toArray b:=by
 obtain⟨a',z,rfl,x|⟨p,o',u,rfl,t⟩⟩:=ni d a n k rfl
 .obtain rfl:m=0:=byO
  have s:=EA i Wc;subst s;refine⟨Wc,[],LRel.nil φ,λb _=>?_⟩;have:=run_loadCells_list (P:=P) b a' [] (λj v d=>by simp at d);grind[Builtin.firstCells]
 have⟨e,l',f,o⟩:=r.crel.cells i u;refine⟨e,l',f,λb g=>?_⟩;have q:∀(j:Nat) v,l'[j]?=some v->b.cell? ((⟨p.b,p.s+o',none⟩:Addr).add j)=some v:=by
  rcases t with rfl|rfl
  .grind[World.cell?]
  .have:l'=[]:=List.eq_nil_of_length_eq_zero (by rw[<-f.1,e,show m=0 by omega];simp)
   simp_all
 have:=run_loadCells_list (P:=P) b ⟨p.b,p.s+o',none⟩ l' q;rw[<-f.1,e]at this;assumption
def te(u:World)(arr:Array Value)(e:TypeId):World.freeze ({ u with heap:=u.heap.push (.cells arr e) }) { block:=u.heap.size,off:=arr.size } 1=u.alloc (.cells arr e (arr.size,arr.size+1)):=by
 unfold World.freeze;rw[if_neg Wd];congr 1
 grind
theorem px{argTypes:Array TypeId}{a b ty:TypeId}{s x:Value}(h:argTypes[0]?=some a/\argTypes[1]?=some b):Builtin.append_ argTypes ty #[s,x]=Builtin.append_ #[a,b] ty #[s,x]:=by simp[Builtin.append_,h.1,h.2]
theorem vB{a:Array MapEntry}{i:Nat}{f:MapEntry->MapEntry}{k v:Value}(b:∀e,f e={ e with key:=k,val:=v })(c:i<a.size):iz (a.modify i f)=putCells (iz a) (2*i) [k,v]:=by
 have key:∀(l:List MapEntry) (i:Nat),i<l.length->(l.modify i f).flatMap (λe=>[e.key,e.val])=putCells (l.flatMap λe=>[e.key,e.val]) (2*i) [k,v]:=by
  intro l
  induction l with
  | nil=>simp_all
  | cons e l d=>
   intro i h;cases i with
   | zero=>simp[putCells,b]
   | succ i=>
    grind[putCells]
 grind[iz]
def zL{b:XN}{agg:Bool}{k:Value}:∀(a:List MapEntry) (i j:Nat) (v:Value),eJ b agg k (a.flatMap λe=>[e.key,e.val]) i=some (some (j,v))->∃n e,j=i+n/\a[n]?=some e/\iJ b agg k e.key=some true
 | [],i,j,v,h=>by simp[eJ]at h
 | e::a,i,j,v,h=>by
  simp[eJ]at h;split at h
  next g=>simp_all
  .have⟨n,c,l,d,f⟩:=zL a (i+1) j v h
   exact⟨n+1,c,byO,XL,f⟩
  .simp at h
def xw(C:HRel φ base G H w)(X:base<=lo){t U W:TypeId}{T:XN}{agg:Bool}(R:P.underlying t=some (.map U W))(Q:keyOf P U=some (T,agg))
  {m V k h x x' v:Value} {H':Heap} (hm:VRel φ m V) (g:VRel φ k h) (S:VRel φ x x') (d:lX lo T agg [m,k,x] H=some (v,H')) :
  ∃w',(Instr.mapUpdate t V h x').run P w=.ok () w'/\Eff φ base G lo H w φ H' w'/\v=undef:=by
 cases hm<;>simp only[lX]at d<;>try (simp at d;done)
 rename_i i p J;split at d<;>try (simp at d)
 rename_i z;split at d<;>try (simp at d)
 rename_i c D;split at d<;>try (simp at d)
 rename_i b N;split at d<;>try (simp at d;done)
 rename_i r Z;simp[ab₀]at d;obtain⟨rfl,rfl⟩:=d;obtain rfl:=o6 N g;rcases C.odd D J Wc with ⟨_,f,a,L,A⟩|⟨B,_⟩
 .have O:(getObj p.b).run P w=.ok (.map f a) w:=by simp[getObj,Sem.run,L]
  have l:∀o,(setObj p.b o).run P w=.ok () { w with heap:=w.heap.setIfInBounds p.b o }:=λo=>by simp[setObj,Sem.run,L]
  have⟨r',M,B⟩:=qJ g c.length c _ 0 r (Nat.le_refl _) A Z;have u:=oZ (P:=P) (w:=w) Q M;have q:=mg (P:=P) (w:=w) Q N false;cases B with
  | none=>
   refine⟨_,?_,Eff.turnO C D J Wc byO z (o:=.map (f.push { key:=h,val:=x',born:=a })<|a+1)<|.inl ⟨rfl,_,_,rfl,?_⟩,rfl⟩
   .simp_all[Instr.mapUpdate,run_underlying]
   .have:iz (f.push { key:=h,val:=x',born:=a })=iz f++[h,x']:=by simp[iz]
    rw[this];exact A.append<|LRel.cons g<|LRel.cons S<|LRel.nil φ
  | some j y y' hy=>
   have⟨n,e,hj,Y,F⟩:=zL f.toList 0 j y' M;have E:j=n:=byO;subst E;have s:f[j]?=some e:=by simpa using Y
   have I:j<f.size:=(Array.getElem?_eq_some_iff.1 s).1;refine⟨_,?_,Eff.turnO C D J Wc byO z (o:=.map (f.modify j λe=>{ e with key:=h,val:=x' }) a)<|.inl ⟨rfl,_,_,rfl,?_⟩,rfl⟩
   .have K:(Instr.keyThatStays (((f[j]?).map (·.key)).getD h) h).run P w=.ok h w:=by
     rw[s];simp only[Option.map_some,aq₀,Instr.keyThatStays];rw[if_pos<|BO F];simp
    simp[Instr.mapUpdate,run_underlying R,O,q,u,K,l]
   .rw[vB (λ_=>rfl) I]
    exact LRel.putCells A (LRel.cons g<|LRel.cons S<|LRel.nil φ) _
 .simp at B
def G8(e:HRel φ base G H w)(u:base<=lo){argTypes:Array TypeId}{type t z r:TypeId}(k:argTypes[0]?=some t)(l:P.underlying t=some (.map z r)){m n v:Value}{H':Heap}(y:VRel φ m n)
  (b:lW lo [m] H=some (v,H')):∃w',(Builtin.clear_ argTypes type #[n]).run P w=.ok undef w'/\Eff φ base G lo H w φ H' w'/\v=undef:=by
 cases y<;>simp only[lW]at b<;>try (simp at b;done)
 .simp_all[Builtin.clear_,run_underlying,undef,Eff.refl]
 next i p j=>
  split at b<;>try (simp at b)
  rename_i f;split at b<;>try (simp at b)
  rename_i c h;obtain⟨rfl,rfl⟩:=b;rcases e.odd h j Wc with ⟨_,q,a,g,A⟩|⟨s,_⟩
  .have x:(getObj p.b).run P w=.ok (.map q a) w:=by simp[getObj,Sem.run,g]
   have d:∀o,(setObj p.b o).run P w=.ok () { w with heap:=w.heap.setIfInBounds p.b o }:=λo=>by simp[setObj,Sem.run,g]
   refine⟨_,?_,Eff.turnO e h j Wc byO f (o:=.map #[] a)<|.inl ⟨rfl,_,_,rfl,by simp[iz,LRel.nil]⟩,rfl⟩;simp_all[Builtin.clear_,run_underlying,undef]
  .simp at s
def L6(ty:TypeId)(d:HRel φ base G H w)(t:base<=lo){m n v:Value}{H':Heap}(u:VRel φ m n)(a:oe lo [m] H=some (v,H')) :
  ∃f w',(Instr.next n true ty).run P w=.ok f w'/\Eff φ base G lo H w φ H' w'/\VRel φ v f:=by
 cases u<;>simp only[oe]at a<;>try (simp at a;done)
 rename_i i z p l;split at a<;>try (simp at a)
 rename_i e;split at a<;>try (simp at a)
 rename_i s q j;rcases d.odd j l Wc with ⟨r,_⟩|⟨_,A,x,g,h⟩
 .simp at r
 .simp at h
  obtain⟨rfl,y⟩:=h;obtain rfl:q=x:=byO;have k:(getObj p.b).run P w=.ok (.stringIter s q) w:=by simp[getObj,Sem.run,g]
  have c:∀o,(setObj p.b o).run P w=.ok () { w with heap:=w.heap.setIfInBounds p.b o }:=λo=>by simp[setObj,Sem.run,g]
  split at a
  next b=>
   obtain⟨rfl,rfl⟩:=a;refine⟨_,_,?_,Eff.turnO d j l Wc byO e (o:=.stringIter s<|q+(Utf8.decode s q).2)<|.inr ⟨rfl,_,_,rfl,rfl⟩,iS φ (v:=.tuple #[.bool true,.int .i64 q,.int .i32 (Utf8.decode s q).1]) rfl⟩;simp[Instr.next,k];rw[if_pos b];simp[c];rfl
  next b=>
   obtain⟨rfl,rfl⟩:=a;refine⟨_,_,?_,Eff.refl d,iS φ (v:=.tuple #[.bool false]) rfl⟩;grind[Instr.next,Sem.run_bind,Sem.run_pure,Result.andThen_ok]
set_option maxHeartbeats 1000000 in
def Ht{o:Oper}{h:HOp}{xs:List Operand}{callA:dd}(f:an P o.op=some (.h h,xs))(T1:h.isCall=false){E B:Operand->Value}(C:∀x ∈ xs,VRel φ (E x)<|B x)
  (S:HRel φ base G H w) (W:base<=lo) {v:Value} {H':Heap} (g:hsem callA lo h (xs.map E) H=some (v,H')) :
  ∃nx R w' F,(execOp B o).run P w=.ok nx w'/\OW R nx/\Eff φ base G lo H w F H' w'/\VRel F v R:=by
 obtain⟨dst,op,type,pos,y1,guard⟩:=o;have D:∀{s:Sem Value} {R:Value} {w':World},s.run P w=.ok R w'->(do pure (Next.value<|<-s):Sem Next).run P w=.ok (.value R) w':=by
  intro s R w' u1;simp[Sem.run_bind,u1,Result.andThen_ok,Sem.run_pure]
 cases op<;>simp only[an]at f
 case alloc t=>
  simp[aa₀,ad₀,ROp.h.injEq]at f;obtain⟨z,hz,rfl,rfl⟩:=f;obtain⟨i,zv,hi,g0,V,H0,Y⟩:=fG hz;simp[hsem]at g;obtain⟨rfl,rfl⟩:=g;obtain⟨J,A⟩:=Eff.alloc (lo:=lo) S (arr:=zv.cells) (c:=z) t (by rw[<-V];simp) (by
   have:=(cK φ Y).cellsOf;rw[<-V]at this ⊢;simpa using this)
  refine⟨_,_,_,_,?_,.inl rfl,J,VRel.ptr _ 0 _ A⟩;simp only[execOp];apply D;simp only[Instr.alloc,Sem.run_bind,bP hi g0,Result.andThen_ok,newVar,newRow,run_newObj,Sem.run_pure];rfl
 case box t x=>
  simp at f;obtain⟨rfl,rfl⟩:=f;have Q:=C x Wc;simp[hsem]at g;obtain⟨rfl,rfl⟩:=g;obtain⟨J,A⟩:=Eff.alloc (lo:=lo) S (arr:=(B x).cells) (c:=(E x).cells.toList) t (by have:=Q.cells.1;simp at this;simp;omega) (by simpa using Q.cells.cellsOf);refine⟨_,_,_,_,?_,.inl rfl,J,VRel.ptr _ 0 _ A⟩;simp only[execOp];apply D;simp only[Instr.box,newVar,newRow,Sem.run_bind,run_newObj,Result.andThen_ok,Sem.run_pure];rfl
 case store t a x=>
  simp only[aa₀,ad₀,ROp.h.injEq]at f;obtain⟨n,hn,rfl,rfl⟩:=f;have ha:=C a Wc;have Q:=C x Wc;simp only[ag₀,al₀]at g;simp only[execOp];generalize E a=av at ha g;generalize B a=ac at ha ⊢;cases ha<;>simp only[hsem]at g<;>try (simp at g;done)
  rename_i i o p hp;split at g
  next q=>
   simp only[aa₀,ad₀]at g;obtain⟨H1,a0,rfl,rfl⟩:=g;obtain⟨e1,e2⟩:=p5 (P:=P) S W a0 hp Q.cells q.2;have U:(B x).cells.size=n:=by have:=Q.cells.1;simp at this;omega
   refine⟨.skip,undef,_,φ,?_,.inr ⟨rfl,rfl⟩,e2,fu⟩;simp only[Instr.storeAt,Instr.sureAddr,storeVar,Sem.run_bind,Sem.run_pure,Result.andThen_ok,aW hn,U,ne_eq,not_true_eq_false,if_false,e1]
  .simp at g
 case makeSlice t l c=>
  simp only[execOp];split at f<;>try (simp at f;done)
  rename_i e T;simp only[ae₀]at f;obtain⟨z,hz,f⟩:=f;split at f<;>try (simp at f;done)
  rename_i X0;simp at f;obtain⟨rfl,rfl⟩:=f;have hl:=C l Wc;have hc:=C c Wc;simp only[ag₀,al₀]at g;generalize E l=la at hl g;generalize B l=lc at hl ⊢;generalize E c=ca at hc g;generalize B c=cc at hc ⊢;cases hl<;>cases hc<;>simp only[hsem]at g<;>try (simp at g;done)
  rename_i k1 n1 k2 n2;split at g<;>try (simp at g;done)
  rename_i hb;simp at g;obtain⟨rfl,rfl⟩:=g;obtain⟨i,zv,hi,g0,V,H0,Y⟩:=fG hz;have j1:zv.cells.size=z.length:=by rw[<-V];simp
  have l0:fB P e=some z.length:=by simp[fB,hi,H0]
  obtain⟨J,A⟩:=Eff.alloc (lo:=lo) S (arr:=(bK z n2.toNat).toArray) (c:=bK z n2.toNat) e Wc<|(jd Y _).cellsOf;refine⟨_,_,_,_,?_,.inl rfl,J,VRel.slice _ 0 _ _ _ A⟩;apply D;have hm:(cT:Int)=4294967296:=rfl;have g2:i.bytes<=4096:=by simpa[kL,hi]using X0.2
  have w1:IntKind.i64.wrap n1=n1:=IntWalk.i64_in _ byO;have I:IntKind.i64.wrap n2=n2:=IntWalk.i64_in _ byO;have X1:∀I:World,(typeInfo e).run P I=.ok i I:=λI=>by simp[typeInfo,hi]
  have x1:(i.bytes:Int)*n2<=4096*4294967296:=Int.mul_le_mul byO byO byO byO;simp only[Instr.makeSlice,Sem.run_bind,run_underlying T,Result.andThen_ok,asInt,asIntOf,Sem.run_pure,X1,w1,I];rw[if_neg Wr];simp only[Sem.run_bind,run_askRoom,Result.andThen_ok,aW l0,Sem.run_ite,Sem.run_pure,bP hi g0];by_cases h0:n2.toNat*z.length=0
  .have O:n2.toNat=0:=Xq
   simp[h0,if_true,Result.andThen_ok,newRow,Sem.run_bind,run_newObj,Sem.run_pure];rw[DD];simp[O,bK,World.alloc_eq]
  .simp only[h0,if_false,Result.andThen_ok,newRow,Sem.run_bind,run_newObj,Sem.run_pure]
   rw[nv zv.cells n2.toNat _ (by rw[j1]) byO,V];rfl
 case buildSlice t len parts=>
  simp only[execOp];split at f<;>try (simp at f;done)
  rename_i e T;simp only[ae₀]at f;obtain⟨z,hz,f⟩:=f;split at f<;>try (simp at f;done)
  rename_i X0;simp only[ab₀,ad₀,ROp.h.injEq]at f;obtain⟨rfl,rfl⟩:=f;simp only[hsem,aa₀,ad₀]at g;obtain⟨l,hl,rfl,rfl⟩:=g;obtain⟨i,zv,hi,g0,V,H0,Y⟩:=fG hz;have j1:zv.cells.size=z.length:=by rw[<-V];simp
  have l0:fB P e=some z.length:=by simp[fB,hi,H0]
  obtain⟨l',e1,e2⟩:=pI (λi=>some (i*z.length,z.length)) _ (parts.toList.map (·.1)) _ _ _ _ l Wc (λj a p ha hp=>by
    simp only[az₀,aa₀]at ha hp;obtain⟨x,Q,rfl⟩:=ha;obtain⟨y,⟨u,T,rfl⟩,rfl⟩:=hp;rw[Q]at T;cases T;rfl) (LRel.map_left E B _ C) (jd Y len) hl
  obtain⟨J,A⟩:=Eff.alloc (lo:=lo) S (arr:=l'.toArray) (c:=l) e (by simp[e2.1]) e2.cellsOf;refine⟨_,_,_,_,?_,.inl rfl,J,VRel.slice _ 0 _ _ _ A⟩;apply D;have s0:(parts.map λ(p:Nat×Operand)=>(p.1,B p.2)).toList=(parts.toList.map (·.1)).zip ((parts.toList.map (·.2)).map B):=by
   rw[Array.toList_map];exact qi parts.toList B
  simp only[Instr.buildSlice,Sem.run_bind,run_underlying T,Result.andThen_ok,aW l0];rw[if_neg byO];simp only[Sem.run_bind,Sem.run_ite,Sem.run_pure,bP hi g0,Result.andThen_ok,s0];by_cases h0:len*z.length=0
  .have O:len=0:=Xq
   subst O;simp only[h0,if_true];have:(bK z 0).toArray=#[]:=rfl;rw[this]at e1;rw[DD,e1];rfl
  .simp only[h0,if_false]
   rw[nv zv.cells len _ (by rw[j1]) byO,V,e1];rfl
 case panic x=>simp at f;obtain⟨rfl,rfl⟩:=f;simp[hsem]at g
 case typeAssert x xt t ok=>repeat' (first|(simp at f;done)|split at f)
 case call c=>
  obtain⟨q0,args,argTypes⟩:=c;cases q0<;>try (simp at f;done)
  .simp at f;obtain⟨rfl,rfl⟩:=f;simp[HOp.isCall]at T1
  rename_i b;rw[pG];cases b<;>try (simp at f;done)
  case len=>simp only at f;repeat' (first|(simp at f;done)|split at f)
  case clear=>
   simp only at f;split at f<;>try (simp at f;done)
   rename_i mT m L1 N;have hA:args=#[m]:=Xw
   subst hA;split at f<;>try (simp at f;done)
   rename_i kt et T;simp at f;obtain⟨rfl,rfl⟩:=f;simp only[ag₀,al₀,hsem]at g;simp only[builtin,List.map_toArray,ag₀,al₀];obtain⟨w',h1,h2,h3⟩:=G8 (P:=P) (argTypes:=argTypes) (type:=type) S W L1 T (C m Wc) g;exact⟨_,undef,w',φ,D h1,.inl rfl,h2,by rw[h3];exact fu⟩
  case append=>
   simp only at f;split at f<;>try (simp at f;done)
   rename_i sT xT s x Z0 g1 N;have hA:args=#[s,x]:=Xw
   subst hA;split at f<;>try (simp at f;done)
   next e e' T o0=>
    split at f<;>try (simp at f;done)
    rename_i sz z U hz;split at f<;>try (simp at f;done)
    rename_i q;simp at f;obtain⟨rfl,rfl⟩:=f;have M:=C s Wc;have L:=C x Wc;simp only[ag₀,al₀]at g;simp only[builtin,List.map_toArray,ag₀,al₀];have j0:argTypes[0]?=some sT/\argTypes[1]?=some xT:=⟨Z0,g1⟩;rw[px j0];have Y0:∀{n:Nat} {new new':XV},new.length=n*sz->LRel φ new new'->oneCells new=true->(∀I:World,(Builtin.lenOf<|B x).run P I=.ok n I) ->
      (∀I:World,I.heap=w.heap->(Builtin.firstCells sz n<|B x).run P I=.ok new'.toArray I)->aV lo sz (E s) new n H=some (v,H')->_:=
     λa1 a2 a3 a4 a5 a6=>py (P:=P) (ty:=type) S W T U hz q.1 q.2.1 q.2.2 M a1 a2 a3 (.inl ⟨.inl ⟨_,o0⟩,a4,a5⟩) a6
    have m1:∃R w' F,(Builtin.append_ #[sT,xT] type #[B s,B x]).run P w=.ok R w'/\Eff φ base G lo H w F H' w'/\VRel F v R:=by
     cases Y1:E x<;>rw[Y1]at g L<;>try (simp[hsem]at g;done)
     rename_i a n k;cases a with
     | none=>
      simp only[hsem]at g;split at g<;>try (simp at g;done)
      rename_i O;subst O;generalize B x=xc at L Y0;cases L;exact Y0 (n:=0) (new:=[]) (new':=[]) Wc (LRel.nil φ) rfl (λI=>rfl) (λI _=>rfl) g
     | some a=>
      simp only[hsem,ae₀]at g;obtain⟨new,A,g⟩:=g;split at g<;>try (simp at g;done)
      rename_i h1;obtain⟨e1,new',e2,e3⟩:=oJ (P:=P) S L (Nat.le_refl n) A;refine Y0 e1 e2 h1 (λI=>?_) e3 g;obtain⟨a',k',he,-⟩:=ni L a n k rfl;rw[he];rfl
    obtain⟨R,w',F,k1,k2,k3⟩:=m1;exact⟨_,R,w',F,D k1,.inl rfl,k2,k3⟩
   next e T o0=>
    split at f<;>try (simp at f;done)
    rename_i z U hz;split at f<;>try (simp at f;done)
    rename_i q;simp at f;obtain⟨rfl,rfl⟩:=f;have M:=C s Wc;have L:=C x Wc;simp only[ag₀,al₀]at g;simp only[builtin,List.map_toArray,ag₀,al₀];have j0:argTypes[0]?=some sT/\argTypes[1]?=some xT:=⟨Z0,g1⟩;rw[px j0];generalize E x=xa at g L;generalize B x=xc at L ⊢;cases L<;>try (simp[hsem]at g;done)
    rename_i st;simp only[hsem]at g;have r0:LRel φ (st.data.toList.map λb=>Value.int .u8 b.toNat)<|st.data.toList.map λb=>Value.int .u8 b.toNat:=cK φ<|List.all_eq_true.2 (λx Q=>by obtain⟨b,_,rfl⟩:=List.mem_map.1 Q;rfl);obtain⟨R,w',F,k1,k2,k3⟩:=py (P:=P) (ty:=type) (x':=.string st) S W T U hz byO q.1 q.2 M Wc r0 (List.all_eq_true.2 λx Q=>by obtain⟨b,_,rfl⟩:=List.mem_map.1 Q;rfl)
     (.inl ⟨.inr o0,λI=>rfl,λI _=>by
      simp only[Builtin.firstCells,Sem.run_pure];congr 1;have:st.extract 0 st.size=st:=by
       apply ByteArray.ext;simp
      rw[this];apply Array.toList_inj.1;simp⟩) g
    exact⟨_,R,w',F,D k1,.inl rfl,k2,k3⟩
   next e ik T o0=>
    split at f<;>try (simp at f;done)
    rename_i sz z U hz;split at f<;>try (simp at f;done)
    rename_i q;simp at f;obtain⟨rfl,rfl⟩:=f;have M:=C s Wc;have L:=C x Wc;simp only[ag₀,al₀]at g;simp only[builtin,List.map_toArray,ag₀,al₀];have j0:argTypes[0]?=some sT/\argTypes[1]?=some xT:=⟨Z0,g1⟩;rw[px j0];generalize E x=xa at g L;generalize B x=xc at L ⊢;cases L<;>try (simp[hsem]at g;done)
    rename_i k' m;simp only[hsem]at g;split at g<;>try (simp at g;done)
    rename_i hm;obtain⟨n,rfl⟩:∃n:Nat,m=n:=⟨m.toNat,byO⟩;rw[Int.toNat_natCast]at g;have r1:∀n,oneCells (bK z n)=true:=by
     intro n
     induction n with
     | zero=>rfl
     | succ n ih=>
      have h2:=q.2.2.2;simp only[oneCells,bK,List.replicate_succ,List.flatten_cons,List.all_append,ac₀]at ih h2 ⊢;exact⟨h2,ih⟩
    obtain⟨b2,zv,hi,g0,V,Z1,Y⟩:=fG hz;obtain⟨R,w',F,k1,k2,k3⟩:=py (P:=P) (ty:=type) (n:=n) (new':=bK z n) S W T U hz q.1 q.2.1 q.2.2.1 M (by rw[mB,q.2.1]) (jd Y n) (r1 n) (.inr ⟨ik,k',o0,rfl,byO,rfl⟩) g;exact⟨_,R,w',F,D k1,.inl rfl,k2,k3⟩
  case copy=>
   simp only at f;split at f<;>try (simp at f;done)
   rename_i dT d s B1 N;have hA:args=#[d,s]:=Xw
   subst hA;split at f<;>try (simp at f;done)
   rename_i e T;simp only[aa₀,ad₀,ROp.h.injEq]at f;obtain⟨sz,U,rfl,rfl⟩:=f;have c0:=C d Wc;have M:=C s Wc;simp only[ag₀,al₀]at g;simp only[builtin,List.map_toArray,ag₀,al₀];have m1:∃R w' F,(Builtin.copy_ argTypes type #[B d,B s]).run P w=.ok R w'/\Eff φ base G lo H w F H' w'/\VRel F v R:=by
    generalize E d=da at g c0;generalize B d=dc at c0 ⊢;generalize E s=sa at g M;generalize B s=sc at M ⊢;have S0:∀(dp:Option Addr) (n k m:Nat) (new':XV) (w':World),dc=.slice dp n k->(∀I:World,(Builtin.lenOf sc).run P I=.ok m I)->(Builtin.firstCells sz (Nat.min m n) sc).run P w=.ok new'.toArray w ->
      (match dp with|some a=>(storeCells a new').run P w=.ok () w'|none=>w'=w)->(Builtin.copy_ argTypes type #[dc,sc]).run P w=.ok (.int .i64 (Nat.min m n:Nat)) w':=by
     intro dp n k m new' w' hd hl hf x0;subst hd;simp only[Builtin.copy_,B1,aj₀,List.getElem?_cons_zero,List.getElem?_cons_succ,Sem.run_bind,run_underlying T,Result.andThen_ok,hl,aW U,hf];cases dp with
     | none=>simp only at x0;subst x0;rfl
     | some a=>simp only at x0;simp only[Sem.run_bind,x0,Result.andThen_ok,Sem.run_pure];rfl
    have b0:∀{a l k},sa=.slice a l k->∀I:World,(Builtin.lenOf sc).run P I=.ok l I:=by
     intro a l k e I;cases M<;>simp at e
     all_goals (obtain⟨rfl,rfl,rfl⟩:=e;rfl)
    have Z:∀{a l k},sa=.slice a l k->∀I:World,(Builtin.firstCells sz 0 sc).run P I=.ok #[] I:=by
     intro a l k e I;cases M<;>simp at e
     all_goals simp[Builtin.firstCells,loadCells,loadCellsFrom]
    cases F1:da<;>rw[F1]at g c0<;>try (simp[hsem]at g;done)
    rename_i dp n k;cases X:sa<;>rw[X]at g M<;>try (simp[hsem]at g;done)
    all_goals try (cases dp<;>simp[hsem]at g;done)
    rename_i sp m j;cases dp with
    | none=>
     simp only[hsem]at g;split at g<;>try (simp at g;done)
     rename_i O;subst O;simp at g;obtain⟨rfl,rfl⟩:=g;cases c0;have e0:Nat.min m 0=0:=Nat.min_zero m;have:=S0 none 0 k m [] w rfl (b0 X) (by rw[e0];exact Z X _) rfl;rw[e0]at this;exact⟨_,w,φ,this,Eff.refl S,.int _ _⟩
    | some da=>
     cases sp with
     | none=>
      simp only[hsem]at g;split at g<;>try (simp at g;done)
      rename_i O;subst O;simp at g;obtain⟨rfl,rfl⟩:=g;obtain⟨a',k',he,-⟩:=ni c0 da n k rfl;have e0:Nat.min 0 n=0:=Nat.zero_min n;have:=S0 (some a') n k' 0 [] w he (b0 X) (by rw[e0];exact Z X _) rfl;rw[e0]at this;exact⟨_,w,φ,this,Eff.refl S,.int _ _⟩
     | some a=>
      simp only[hsem,ae₀]at g;obtain⟨new,A,g⟩:=g;split at g<;>try (simp at g;done)
      rename_i h1;simp only[aa₀,ad₀]at g;obtain⟨H1,a0,rfl,rfl⟩:=g;obtain⟨e1,new',e2,e3⟩:=oJ (P:=P) S M (Nat.min_le_left m n) A;obtain⟨a',k',he,h0|⟨p,o',hp,rfl,ho⟩⟩:=ni c0 da n k rfl
      .subst h0
       have O:new=[]:=List.eq_nil_of_length_eq_zero (by rw[e1];simp);have S1:new'=[]:=List.eq_nil_of_length_eq_zero (by rw[<-e2.1,e1];simp);subst O S1;obtain rfl:=Lr a0;exact⟨_,w,φ,S0 (some a') 0 k' m [] _ he (b0 X) (e3 w rfl) rfl,Eff.refl S,.int _ _⟩
      obtain⟨f1,f2⟩:=p5 (P:=P) S W a0 hp e2 h1;refine⟨_,_,φ,S0 (some ⟨p.b,p.s+o',none⟩) n k' m new' _ he (b0 X) (e3 w rfl) ?_,f2,.int _ _⟩;simp only;rcases ho with rfl|rfl
      .exact f1
      .have:new'=[]:=List.eq_nil_of_length_eq_zero (by rw[<-e2.1,e1];simp)
       subst this;rfl
   obtain⟨R,w',F,k1,k2,k3⟩:=m1;exact⟨_,R,w',F,D k1,.inl rfl,k2,k3⟩
 case convert m2 dst x=>
  split at f<;>try (simp at f;done)
  .split at f<;>simp at f
  rotate_left
  next e0 e y0 z0=>
   split at f<;>try (simp at f;done)
   rename_i b1;split at f<;>try (simp at f;done)
   rename_i W1;subst W1;simp at f;obtain⟨rfl,rfl⟩:=f;rw[y0]at z0;cases z0;have Q:=C x Wc;simp only[ag₀,al₀]at g;simp only[execOp];generalize E x=xa at g Q;generalize B x=xc at Q ⊢;cases Q<;>simp only[hsem,lT]at g<;>try (simp at g;done)
   rename_i i o l c p hp;split at g
   next d hd=>
    split at g
    next G1=>
     simp at g;obtain⟨rfl,rfl⟩:=g;obtain⟨arr,ty,fr,e2,e3,e4,e5,e6⟩:=S.cellC hd hp;refine⟨_,.slice (some ⟨p.b,p.s+o,none⟩) l c,_,_,?_,.inl rfl,Eff.mark S hd hp G1 byO e2,.slice _ _ _ _ _ hp⟩;apply D;have w0:World.shape? w p.b=some (ty,arr.size):=by simp[World.shape?,e2]
     simp only[convert,Sem.run_bind,run_underlying y0,run_underlying b1,Result.andThen_ok,beq_self_eq_true,markStringish,run_shape,w0,run_freeze,Sem.run_pure]
    .simp at g
   .simp at g
  rename_i e y0 z0;split at f<;>try (simp at f;done)
  rename_i b1;simp at f;obtain⟨rfl,rfl⟩:=f;have Q:=C x Wc;simp only[ag₀,al₀]at g;simp only[execOp];generalize E x=xa at g Q;generalize B x=xc at Q ⊢;cases Q<;>simp only[hsem]at g<;>try (simp at g;done)
  rename_i st;simp at g;obtain⟨rfl,rfl⟩:=g;obtain⟨K,hK⟩:∃K,K=(Question.appendCap st.size 0 e).cut (w.tape w.drawn<|.appendCap st.size 0 e):=⟨_,rfl⟩;have p1:st.size<=K:=XY
  have A1:(choose<|.appendCap st.size 0 e).run P w=.ok K { w with drawn:=w.drawn+1 }:=by
   rw[hK];simp[Question.forced]
  let arr:Array Value:=(st.data.map λb=>Value.int .u8 b.toNat)++Array.replicate (K-st.size) (.int .u8 0)
  have j2:st.data.size=st.size:=rfl;have T0:arr.size=K:=by simp[arr];omega
  obtain⟨J,A⟩:=Eff.allocF (lo:=lo) (S.congr (w':={ w with drawn:=w.drawn+1 }) rfl) (arr:=arr) (c:=st.data.toList.map λb=>Value.int .u8 b.toNat) e (arr.size,arr.size+1) (.inr<|Nat.le_refl _)
   (by rw[T0];simp;omega) (λj v hv=>by
    simp only[az₀,aa₀]at hv;obtain⟨b,hb,rfl⟩:=hv;have K1:j<st.data.size:=by have:=(List.getElem?_eq_some_iff.1 hb).1;simpa using this
    refine⟨_,?_,.int _ _⟩;simp only[arr];rw[Array.getElem?_append_left (by simpa using K1)];simp at hb;simp[hb])
  refine⟨_,.slice (some ⟨w.heap.size,0,none⟩) st.size K,_,_,?_,.inl rfl,Eff.of_drawn J,?_⟩
  .apply D
   simp only[convert,Sem.run_bind,run_underlying y0,run_underlying z0,run_underlying b1,Result.andThen_ok,Conv.stringToBytes,A1];simp only[newRow,Sem.run_bind,run_newObj,Result.andThen_ok,Sem.run_pure,markStringish,run_shape];have w0:World.shape? ({ ({ w with drawn:=w.drawn+1 }:World)with heap:=w.heap.push (.cells arr e) }) w.heap.size=some (e,arr.size):=by
    simp[World.shape?]
   simp only[arr]at w0;rw[w0];simp only[run_freeze];have q1:=te ({ w with drawn:=w.drawn+1 }) arr e;simp only[arr]at q1 ⊢;rw[<-q1];rfl
  .refine .sliceIn H.length 0 st.size st.size 1 _ 0 K A p1 (Nat.le_refl _) (.inl rfl) ?_
   simp[T0]
 case makeFunc fn z1 o1=>cases fn<;>simp at f
 case makeMap t r=>
  cases r<;>simp only at f<;>try (simp at f;done)
  split at f<;>try (simp at f;done)
  simp at f;obtain⟨rfl,rfl⟩:=f;simp[hsem]at g;obtain⟨rfl,rfl⟩:=g;obtain⟨J,A⟩:=Eff.allocO (lo:=lo) S (o:=.map #[] 0) (c:=[]) (k:=1)<|.inl ⟨rfl,#[],0,rfl,by simp[iz,LRel.nil]⟩;refine⟨_,_,_,_,?_,.inl rfl,J,VRel.map _ _ A⟩;simp only[execOp,Option.map_none];apply D;simp only[Instr.makeMap,Sem.run_bind,Sem.run_pure,run_newObj,Result.andThen_ok];rfl
 case mapUpdate t m k x=>
  split at f<;>try (simp at f;done)
  rename_i kt et T;split at f<;>try (simp at f;done)
  rename_i ks agg hk;simp at f;obtain⟨rfl,rfl⟩:=f;simp only[ag₀,al₀,hsem]at g;obtain⟨w',h1,h2⟩:=xw (P:=P) S W T hk (C m Wc) (C k Wc) (C x Wc) g;exact⟨.skip,undef,w',φ,by simp only[execOp,Sem.run_bind,h1,Result.andThen_ok,Sem.run_pure],.inr ⟨rfl,rfl⟩,h2.1,by rw[h2.2];exact fu⟩
 case range t x=>
  split at f<;>try (simp at f;done)
  rename_i T;simp at f;obtain⟨rfl,rfl⟩:=f;have Q:=C x Wc;simp only[ag₀,al₀]at g;simp only[execOp];generalize E x=xa at g Q;generalize B x=xc at Q ⊢;cases Q<;>simp only[hsem]at g<;>try (simp at g;done)
  rename_i st;simp only[ab₀,ad₀]at g;obtain⟨rfl,rfl⟩:=g;obtain⟨J,A⟩:=Eff.allocO (lo:=lo) S (o:=.stringIter st 0) (c:=[.string st,.int .i64<|.ofNat 0]) (k:=2)<|.inr ⟨rfl,st,0,rfl,rfl⟩;refine⟨_,_,_,_,?_,.inl rfl,J,VRel.iter _ _ _ A⟩;apply D;simp only[Instr.range,Sem.run_bind,run_underlying T,Result.andThen_ok,Sem.run_pure,run_newObj];rfl
 case next x s=>
  cases s<;>simp at f;obtain⟨rfl,rfl⟩:=f;simp only[ag₀,al₀,hsem]at g;obtain⟨R,w',h1,h2,h3⟩:=L6 (P:=P) type S W (C x Wc) g;exact⟨_,R,w',φ,by simp only[execOp];exact D h1,.inl rfl,h2,h3⟩
 all_goals first|(simp at f;done)|(repeat' (first|(simp at f;done)|split at f|(simp only[ae₀,aa₀]at f;obtain⟨_,_,f⟩:=f)))
end
inductive E where
 | var (j:Nat)
 | cst (v:Value)
 | nil
 | cons (a b:E)
 | node (o:LOp) (a:E)
 | pick (c a b:E)
def ev(S:XV)(H:Heap):E->Option XV
 | .var j=>match S[j]? with
  | some v=>some [v]
  | none=>none
 | .cst v=>some [v]
 | .nil=>some []
 | .cons a b=>match ev S H a with
  | some x=>match ev S H b with
   | some y=>some<|x++y
   | none=>none
  | none=>none
 | .node o a=>match ev S H a with
  | some vs=>match aG o vs H with
   | some v=>some [v]
   | none=>none
  | none=>none
 | .pick c a b=>match ev S H c with
  | some [.bool true]=>ev S H a
  | some [.bool false]=>ev S H b
  | _=>none
def ev1(S:XV)(H:Heap)(e:E):Option Value:=
 match ev S H e with
 | some [v]=>some v
 | _=>none
abbrev PC:=List<|E×Bool
def holds(S:XV)(H:Heap):PC->Option Bool
 | []=>some true
 | (c,want)::r=>match ev1 S H c with
  | some (.bool b)=>if b=want then holds S H r else some false
  | _=>none
def evSets(S:XV)(H:Heap):List (Nat×E)->Option (List<|Nat×Value)
 | []=>some []
 | (j,e)::r=>match ev1 S H e with
  | some v=>match evSets S H r with
   | some l=>some ((j,v)::l)
   | none=>none
  | none=>none
def evChk(S:XV)(H:Heap):List E->Bool
 | []=>true
 | e::r=>(ev S H e).isSome&&evChk S H r
def setAll(S:XV):List (Nat×Value)->XV
 | []=>S
 | (j,v)::r=>setAll (S.set j v) r
inductive Stm where
 | skip
 | sets (l:List<|Nat×E) (chk:List E)
 | hv (l:List<|Nat×E) (chk:List E) (pc:PC) (dst:Option Nat) (o:HOp) (a:E)
 | dist (a b:E)
 | seq (a b:Stm)
 | cond (c:E) (a b:Stm)
 | block (id:Nat) (b:Stm)
 | loop (b:Stm)
 | exit (id:Nat)
 | ret
 | scope (b alts:Stm)
 | alt (l:Nat) (s r:Stm)
def bM:Nat:=1000000
def bN:Nat:=999999
abbrev CallR:=Nat->FuncId->XV->Heap->Option ((Value ⊕ Value)×Heap)
def CallR.ret(c:CallR):dd:=λlo f args H=>match c lo f args H with
 | some (.inl v,H')=>some (v,H')
 | _=>none
def CallR.pan(c:CallR):dd:=λlo f args H=>match c lo f args H with
 | some (.inr v,H')=>some (v,H')
 | _=>none
def ct(c:CallR)(lo:Nat):HOp->XV->Heap->Option (Value×Heap)
 | .call false,.func (.func f) first cap::args,H=>c.pan lo f (first.toList++args++cap.toList) H
 | .pan,[.iface t v],H=>some (.iface t v,H)
 | _,_,_=>none
def ke:Stm->Stm
 | .hv l chk pc dst (.call false) a=>.hv l chk pc dst .callC a
 | .hv l chk pc dst .pan a=>.hv l chk pc dst .fail a
 | s=>s
inductive Ex where
 | normal
 | exit (id:Nat)
 | ret
abbrev Out:=Option<|Ex×XV×Heap
def iter(f:XV->Heap->Out):Nat->XV->Heap->Out
 | 0,_,_=>none
 | n+1,S,H=>match f S H with
  | some (.normal,S',H')=>iter f n S' H'
  | r=>r
def hop(f:XV->Heap->Out):Nat->Out->Out
 | 0,some (.exit j,S,H)=>if bM<=j then none else some (.exit j,S,H)
 | n+1,some (.exit j,S,H)=>if bM<=j then hop f n (f (.int .i64 ((j-bM:Nat):Int)::S) H) else some (.exit j,S,H)
 | _,o=>o
noncomputable def exec(callA:CallR)(lo n:Nat):Stm->XV->Heap->Out
 | .skip,S,H=>some (.normal,S,H)
 | .sets l chk,S,H=>match evSets S H l with
  | some vs=>if evChk S H chk then some (.normal,setAll S vs,H) else none
  | none=>none
 | .hv l chk pc dst o a,S,H=>match evSets S H l with
  | some vs=>if evChk S H chk then
    match holds S H pc with
    | some true=>match ev S H a with
     | some xs=>match hsem callA.ret lo o xs H with
      | some (v,H')=>some (.normal,match dst with|some d=>(setAll S vs).set d v|none=>setAll S vs,H')
      | none=>match ct callA lo o xs H with
       | some (v,H')=>some (.exit bN,v::setAll S vs,H')
       | none=>none
     | none=>none
    | some false=>some (.normal,match dst with|some d=>(setAll S vs).set d undef|none=>setAll S vs,H)
    | none=>none
   else none
  | none=>none
 | .dist a b,S,H=>match ev1 S H a,ev1 S H b with
  | some x,some y=>if aT x=none\/aT x≠aT y then some (.normal,S,H) else none
  | _,_=>none
 | .seq a b,S,H=>match exec callA lo n a S H with
  | some (.normal,S',H')=>exec callA lo n b S' H'
  | r=>r
 | .cond c a b,S,H=>match ev1 S H c with
  | some (.bool true)=>exec callA lo n a S H
  | some (.bool false)=>exec callA lo n b S H
  | _=>none
 | .block i b,S,H=>match exec callA lo n b S H with
  | some (.exit j,S',H')=>if j=i then some (.normal,S',H') else some (.exit j,S',H')
  | r=>r
 | .loop b,S,H=>iter (exec callA lo n b) n S H
 | .exit i,S,H=>some (.exit i,S,H)
 | .ret,S,H=>some (.ret,S,H)
 | .scope b alts,S,H=>hop (exec callA lo n alts) n<|exec callA lo n b S H
 | .alt l s r,S,H=>match S with
  | .int .i64 t::S0=>if t=(l:Nat) then exec callA lo n s S0 H else exec callA lo n r S H
  | _=>none
inductive CK where
 | plain
 | dfr (mid:Stm) (j:Nat) (rest:Stm)
 | rcv (j:Nat)
 | prim (g:XV->Heap->Option Value)
structure CF where
 np:Nat
 ns:Nat
 res:List E
 body:Stm
 kind:CK
abbrev Wl:=FuncId->Option CF
def evList(S:XV)(H:Heap):List E->Option XV
 | []=>some []
 | e::r=>match ev1 S H e with
  | some v=>match evList S H r with
   | some l=>some (v::l)
   | none=>none
  | none=>none
def aR(vs:XV):Value:=
 match vs with
 | [v]=>v
 | vs=>.tuple vs.toArray
noncomputable def jv(cp:Wl)(callA:CallR)(lo n:Nat)(g:FuncId)(args:XV)(rv:Value)(H:Heap):Option Heap:=
 match cp g with
 | some cg=>match cg.kind with
  | .rcv k=>if args.length=cg.np then
    match exec callA lo n cg.body ((args++List.replicate (cg.ns-cg.np) undef).set k rv) H with
    | some (.normal,_,H')|some (.ret,_,H')=>some H'
    | _=>none
   else none
  | _=>none
 | none=>none
def oa(res:List E)(S:XV)(H:Heap):Option<|(Value ⊕ Value)×Heap:=
 match evList S H res with
 | some vs=>some (.inl<|aR vs,H)
 | none=>none
noncomputable def iT(cp:Wl)(callA:CallR)(lo n:Nat)(res:List E)(body mid:Stm)(j:Nat)(rest:Stm)(S0:XV)(H:Heap):Option<|(Value ⊕ Value)×Heap:=
 match exec callA lo n body S0 H with
 | some (.ret,S,H')=>oa res S H'
 | some (.exit i,p::_,H')=>if i=bN then some (.inr p,H') else none
 | some (.normal,S,H')=>match exec callA lo n mid S H' with
  | some (.normal,S1,H1)=>match S1[j]? with
   | some (.func (.func g) first cap)=>match exec callA lo n rest S1 H1 with
    | some (.normal,S2,H2)|some (.ret,S2,H2)=>match jv cp callA lo n g (first.toList++cap.toList) .nilIface H2 with
     | some H3=>oa res S2 H3
     | none=>none
    | some (.exit i,p::S2,H2)=>if i=bN then
      match jv cp callA lo n g (first.toList++cap.toList) p H2 with
      | some H3=>oa res S2 H3
      | none=>none
     else none
    | _=>none
   | _=>none
  | _=>none
 | _=>none
noncomputable def run(cp:Wl):Nat->CallR
 | 0=>λ_ _ _ _=>none
 | n+1=>λlo f args H=>match cp f with
  | some cf=>if args.length=cf.np then
    match cf.kind with
    | .plain=>match exec (run cp n) lo n cf.body (args++List.replicate (cf.ns-cf.np) undef) H with
     | some (.normal,S,H')|some (.ret,S,H')=>match evList S H' cf.res with
      | some vs=>some (.inl<|aR vs,H')
      | none=>none
     | some (.exit j,p::_,H')=>if j=bN then some (.inr p,H') else none
     | _=>none
    | .dfr mid j rest=>iT cp (run cp n) lo n cf.res cf.body mid j rest (args++List.replicate (cf.ns-cf.np) undef) H
    | .rcv _=>none
    | .prim g=>match g args H with
     | some v=>some (.inl v,H)
     | none=>none
   else none
  | none=>none
structure Ent where
 t:Nat
 e:E
 pc:PC
 g:Option<|Nat×Bool
structure Obl where
 t:Nat
 pc:PC
 e:E
 g:Option<|Nat×Bool
structure CS where
 out:List Stm
 env:List Ent
 obl:List Obl
def idxOf(tr:XN)(t:Nat):Option Nat:=
 match tr with
 | []=>none
 | x::r=>if x=t then some 0 else(idxOf r t).map (·+1)
def jn(tr:XN)(env:List Ent)(t:Nat):Option Ent:=
 match env.find? (λx=>x.t==t)with
 | some x=>some x
 | none=>(idxOf tr t).map λj=>⟨t,.var j,[],none⟩
def opE(tr:XN)(env:List Ent):Operand->Option Ent
 | .tmp t=>jn tr env t
 | .const v=>if gT v then some ⟨0,.cst v,[],none⟩ else none
 | .func f=>some ⟨0,.cst<|.func (.func f) #[] #[],[],none⟩
 | .global g=>some ⟨0,.cst<|.pointer<|some ⟨g,0,none⟩,[],none⟩
def mo(tr:XN)(env:List Ent):List Operand->Option (List Ent)
 | []=>some []
 | x::r=>match opE tr env x with
  | some a=>match mo tr env r with
   | some l=>some (a::l)
   | none=>none
  | none=>none
def kC:List Ent->E
 | []=>.nil
 | a::r=>.cons a.e<|kC r
def okG(g ge:Option<|Nat×Bool):Bool:=ge==none || ge==g
def cH:Operand->Option Nat
 | .tmp t=>some t
 | _=>none
def nL(els:E):PC->E->E
 | [],e=>e
 | (c,true)::r,e=>.pick c (nL els r e) els
 | (c,false)::r,e=>.pick c els<|nL els r e
def hO(tr:XN)(env:List Ent):List<|Nat×E:=
 env.filterMap λx=>(idxOf tr x.t).map λj=>(j,nL (.cst undef) x.pc x.e)
def zT(env:List Ent)(t:Nat):Bool:=env.any λx=>x.t==t
def rest(obl:List Obl)(g:Option<|Nat×Bool)(ts:XN):List Obl:=obl.filter λx=>!(x.g==g&&ts.contains x.t)
def EB(obl:List Obl):List E:=obl.map λx=>nL .nil x.pc x.e
def cJ(ops:List Oper)(tr:XN)(env:List Ent)(g:Option<|Nat×Bool):Option PC:=
 match g with
 | none=>some []
 | some (j,want)=>match ops[j]? with
  | some o=>match o.dst with
   | some t=>(jn tr env t).map λx=>x.pc++[(x.e,want)]
   | none=>none
  | none=>none
def wX(ops:List Oper)(g:Option<|Nat×Bool)(tc:Option Nat)(side:Bool)(x:Ent):Bool:=
 okG g x.g || match x.g with
  | some (j,want)=>want==side&&(match ops[j]? with|some o=>o.dst==tc&&tc.isSome|none=>false)
  | none=>false
def rM(l:LOp)(es:List Ent):E:=
 match l,es with
 | .mv,[x]=>x.e
 | _,_=>.node l<|kC es
abbrev dG:=Option<|List Operand
def uZ(k:dG)(q:ROp×List Operand):ROp×List Operand:=match q with
 | (.h<|.call b,xs)=>match k with
  | some l=>(.h<|.callK l.length,l++xs)
  | none=>(.h<|.call b,xs)
 | q=>q
def rsv(P:Program)(k:dG)(o:Oper):ROp×List Operand:=uZ k<|resolve P o.op
def nX(ops:List Oper)(env:List Ent)(d:Nat):Bool:=
 env.all λx=>match x.g with
  | some (j,_)=>match ops[j]? with
   | some o=>!(o.dst==some d)
   | none=>true
  | none=>true
def qD(P:Program)(tr:XN)(ops:List Oper)(raised:dG)(st:CS)(o:Oper):Option CS:=
 match cJ ops tr st.env o.guard,rsv P raised o with
 | some pc,(.l l,xs)=>
  match o.dst with
  | none=>none
  | some d=>
   if zT st.env d || !nX ops (⟨d,.nil,[],o.guard⟩::st.env) d then none else
   match l,xs,mo tr st.env xs with
   | .pk,[xc,xa,xb],some [c,a,b]=>
    if okG o.guard c.g&&wX ops o.guard (cH xc) true a&&wX ops o.guard (cH xc) false b then
     let e:=E.pick c.e a.e b.e
     let obl:=rest st.obl o.guard ((cH xc).toList)
     let obl:=if okG o.guard a.g || !(c.g==o.guard) then obl else rest obl a.g ((cH xa).toList)
     let obl:=if okG o.guard b.g || !(c.g==o.guard) then obl else rest obl b.g ((cH xb).toList)
     some { st with env:=⟨d,e,pc,o.guard⟩::st.env,obl:=⟨d,pc,e,o.guard⟩::obl }
    else none
   | .pk,_,_=>none
   | l,xs,some es=>
    if es.all (λx=>okG o.guard x.g) then
     let e:=rM l es
     some { st with env:=⟨d,e,pc,o.guard⟩::st.env,obl:=⟨d,pc,e,o.guard⟩::rest st.obl o.guard (xs.filterMap cH) }
    else none
   | _,_,none=>none
 | some pc,(.h h,xs)=>
  match mo tr st.env xs with
  | some es=>
   if es.all (λx=>okG o.guard x.g) then
    let obl:=rest (st.obl.filter λx=>!(idxOf tr x.t).isSome) o.guard (xs.filterMap cH)
    some { out:=.hv (hO tr st.env) (EB obl) pc (o.dst.bind<|idxOf tr) h (kC es)::st.out,env:=[],obl:=[] }
   else none
  | none=>none
 | _,_=>none
def eM(P:Program)(tr:XN)(ops:List Oper)(raised:Nat->dG):XN->CS->Option CS
 | [],st=>some st
 | i::r,st=>match ops[i]? with
  | some o=>match qD P tr ops (raised i) st o with
   | some st'=>eM P tr ops raised r st'
   | none=>none
  | none=>none
def ez:List Stm->Stm
 | []=>.skip
 | [s]=>s
 | s::r=>.seq s<|ez r
def flush(tr:XN)(st:CS):List Stm:=
 let l:=hO tr st.env
 let chk:=EB (st.obl.filter λx=>!(idxOf tr x.t).isSome)
 if l.isEmpty&&chk.isEmpty then st.out.reverse else st.out.reverse++[.sets l chk]
def gG(l:LOp):Bool:=match l with | .ld _ _ | .b2s | .mget _ _ _ _=>true|_=>false
def jB(P:Program)(o:Oper):Nat:=
 match resolve P o.op with
 | (.l l,_)=>if gG l then 1 else 0
 | (.h h,_)=>match h with
  | .alloc _ | .box | .mkSl _ | .bSl _ _ _ | .s2b=>2
  | _=>3
def iu(P:Program)(o:Oper):Bool:=
 match resolve P o.op with
 | (.h<|.call _,_)=>true
 | _=>false
def Sn(ops:List Oper):XN:=
 ops.foldl (init:=[]) λacc o=>
  acc++[(o.after.toList.filter<|Region.binds .any).foldl (λs e=>s ||| 2^e.on ||| (acc[e.on]?).getD 0) 0]
def Og(m n:Nat):XN:=(List.range n).filter λi=>m.testBit i
def beforeL(ops:List Oper):List XN:=(Sn ops).map λm=>Og m ops.length
def ordered(b:List XN)(i j:Nat):Bool:=((b[j]?).getD []).contains i || ((b[i]?).getD []).contains j
def bOf(b:List XN)(i:Nat):XN:=(b[i]?).getD []
def looseAt(ks:XN)(b:List XN)(i:Nat):XN:=
 (List.range ks.length).filter λj=>(ks[j]?).getD 0==1&&!ordered b i j
def OZ(ks:XN)(early:Nat->Bool)(b:List XN):Nat->XN->XN->XN
 | 0,_,done=>done.reverse
 | n+1,left,done=>
  match left.find? (λi=>((ks[i]?).getD 0<=1 || early i)&&(bOf b i).all done.contains)with
  | some i=>OZ ks early b n (left.erase i) (i::done)
  | none=>match left.find? (λi=>2<=(ks[i]?).getD 0)with
   | some i=>OZ ks early b n (left.erase i) (i::done)
   | none=>done.reverse
def eh(P:Program)(ops:List Oper):XN:=ops.map<|jB P
def du(P:Program)(ops:List Oper)(draw:Bool):XN:=
 if draw then OZ (eh P ops) (λi=>match (ops[i]?).map (λo=>(resolve P o.op).1)with|some (.h .mkMap)=>true|_=>false) (beforeL ops) ops.length (List.range ops.length) [] else List.range ops.length
def gY(P:Program)(ops:List Oper)(draw:Bool):List<|Nat×Nat:=
 if draw then
  let ks:=eh P ops
  let b:=beforeL ops
  (List.range ops.length).flatMap λi=>
   if (ks[i]?).getD 0==3&&!((ops[i]?).any<|iu P) then
    ((List.range ops.length).filter λj=>(ks[j]?).getD 0==1&&!ordered b i j).map λj=>(i,j)
   else[]
 else[]
def bH(P:Program)(ops:List Oper)(i:Nat):Option Operand:=
 match ops[i]? with
 | some o=>(resolve P o.op).2.head?
 | none=>none
def Q6(P:Program)(o:Oper):XN:=
 (resolve P o.op).2.filterMap cH
def sK(P:Program)(ops:List Oper)(o:Oper):XN:=
 Q6 P o++(match o.guard with|some (j,_)=>(match ops[j]? with|some q=>q.dst.toList|none=>[])|none=>[])
def posOf(l:XN)(i:Nat):Nat:=(idxOf l i).getD l.length
def stays(ops:List Oper)(b:List XN)(i:Nat)(x:Option Operand):Bool:=
 match x with
 | some (.tmp t)=>(List.range ops.length).all λk=>!((ops[k]?).any λo=>o.dst==some t) || (bOf b i).contains k
 | some (.const _)=>true
 | some (.global _)=>true
 | _=>false
def nodup(l:XN):Bool:=
 match l with
 | []=>true
 | x::r=>!r.contains x&&nodup r
def gN(P:Program)(ops:List Oper):Bool:=
 let n:=ops.length
 let ks:=eh P ops
 let b:=beforeL ops
 let π:=du P ops true
 let pairs:=gY P ops true
 let rg:=List.range n
 π.length==n&&rg.all (λi=>π.contains i)&&nodup π&&π.all (λi=>decide<|i<n) &&
 rg.all (λi=>(bOf b i).all λj=>((ops[i]?).map λo=>o.after.toList.any λe=>Region.binds .any e&&(e.on==j || (bOf b e.on).contains j)).getD false) &&
 rg.all (λi=>((ops[i]?).map λo=>o.after.toList.all λe=>!Region.binds .any e || e.on<i).getD false) &&
 rg.all (λi=>(bOf b i).all λj=>posOf π j<posOf π i) &&
 rg.all (λi=>match (ops[i]?).bind (·.guard)with|some (j,_)=>(bOf b i).contains j|none=>true) &&
 rg.all (λi=>rg.all λj=>i==j || ordered b i j ||
  match ops[i]?,ops[j]? with
  | some o,some p=>match o.dst with
   | some d=>!(p.dst==some d)&&!((sK P ops p).contains d)
   | none=>true
  | _,_=>false) &&
 rg.all (λi=>(ks[i]?).getD 0 != 3 || rg.all λj=>i==j || ordered b i j ||
  match (ks[j]?).getD 0 with
  | 3=>false
  | 2=>posOf π i<posOf π j
  | 1=>posOf π j<posOf π i&&(((ops[i]?).any (iu P)&&((bH P ops j).isSome&&stays ops b j (bH P ops j))) || pairs.contains (i,j))
  | _=>true) &&
 pairs.all λq=>stays ops b q.1 (bH P ops q.1)&&stays ops b q.2 (bH P ops q.2)
def mU(P:Program)(tr:XN)(ops:List Oper)(draw:Bool):Option<|List Stm:=
 (gY P ops draw).foldlM (init:=[]) λacc q=>
  match bH P ops q.1,bH P ops q.2 with
  | some x,some y=>match opE tr [] x,opE tr [] y with
   | some a,some c=>some<|acc++[Stm.dist a.e c.e]
   | _,_=>none
  | _,_=>none
def dC:CS:=⟨[],[],[]⟩
def bq(P:Program)(ops:List Oper)(draw:Bool):Nat->dG:=
 if draw then λi=>match (looseAt (eh P ops) (beforeL ops) i).filterMap (bH P ops)with
  | []=>none
  | x::l=>some (x::l)
 else λ_=>none
def dV(P:Program)(tr:XN)(ops:List Oper)(draw:Bool):Option CS:=
 if draw&&!gN P ops then none else
 eM P tr ops (bq P ops draw) (du P ops draw) dC
def qQ(P:Program)(ops:List Oper):Bool:=
 let ops':=ops.dropLast
 let n:=ops'.length
 (ops[n]?).any (iu P)&&(du P ops true==du P ops' true++[n]&&(gN P ops'&&((gY P ops true).isEmpty&&((gY P ops' true).isEmpty &&
  ((List.range n).all (λi=>looseAt (eh P ops) (beforeL ops) i==looseAt (eh P ops') (beforeL ops') i)&&((bq P ops true n).isNone&&((List.range n).all (λj=>(bOf (beforeL ops) n).contains j) &&
  ops'.all λo=>match o.guard with|some (j,_)=>j<n|none=>true)))))))
def cz(P:Program)(ops:List Oper)(draw:Bool)(st:CS):CS:=
 if draw then
  { st with out:=match st.out with
   | []=>[]
   | s::r=>(if qQ P ops then s else ke s)::r.map ke }
 else st
def gU(P:Program)(tr:XN)(ops:List Oper)(draw:Bool):Option<|List Stm:=
 match dV P tr ops draw,mU P tr ops draw with
 | some st,some ds=>some<|flush tr (cz P ops draw st)++ds
 | _,_=>none
def gq(P:Program)(tr:XN)(ops:List Oper)(draw:Bool)(c:Operand):Option<|List Stm×E:=
 match dV P tr ops draw,mU P tr ops draw with
 | some st,some []=>
  if (hO tr st.env).isEmpty then
   match opE tr st.env c with
   | some x=>if x.g==none then
     let obl:=rest (st.obl.filter λx=>!(idxOf tr x.t).isSome) none ((cH c).toList)
     some (if obl.isEmpty then(cz P ops draw st).out.reverse else(cz P ops draw st).out.reverse++[.sets []<|EB obl],x.e)
    else none
   | none=>none
  else match opE tr [] c with
   | some x=>some (flush tr<|cz P ops draw st,x.e)
   | none=>none
 | some st,some ds=>match opE tr [] c with
  | some x=>some (flush tr (cz P ops draw st)++ds,x.e)
  | none=>none
 | _,_=>none
def Nu:Stm:=.cond .nil .skip .skip
mutual
def bF(P:Program)(tr:XN):Code->Option Stm
 | .skip=>some .skip
 | .region _ ops draw=>(gU P tr ops.toList draw).map ez
 | .seq (.region _ ops draw) (.cond c a b)=>
  match gq P tr ops.toList draw c,bF P tr a,bF P tr b with
  | some (l,e),some a',some b'=>some (ez (l++[.cond e a' b']))
  | _,_,_=>none
 | .seq (.region _ ops draw) (.seq (.cond c a b) r)=>
  match gq P tr ops.toList draw c,bF P tr a,bF P tr b,bF P tr r with
  | some (l,e),some a',some b',some r'=>some (.seq (ez (l++[.cond e a' b'])) r')
  | _,_,_,_=>none
 | .seq a b=>match bF P tr a,bF P tr b with
  | some a',some b'=>some (.seq a' b')
  | _,_=>none
 | .cond c a b=>match opE tr [] c,bF P tr a,bF P tr b with
  | some x,some a',some b'=>some (.cond x.e a' b')
  | _,_,_=>none
 | .block i b=>if i<bN then(bF P tr b).map (.block i) else none
 | .loop b=>(bF P tr b).map .loop
 | .exit i=>if i<bN then some (.exit i) else none
 | .ret=>some .ret
 | .label _=>some .skip
 | .goto l=>some (.exit (bM+l))
 | .scope c=>match bF P tr c,dI P tr c with
  | some c',some ls=>some (.scope c' (ls.foldr (fun x r=>.alt x.1 x.2 r) Nu))
  | _,_=>none
 | .rangeFunc _ _ _ _=>none
 | .refuse _=>none
def dI(P:Program)(tr:XN):Code->Option (List (Nat×Stm))
 | .seq a b=>match dI P tr a,dI P tr b with
  | some [],some lb=>some lb
  | some (y::la),some lb=>match bF P tr b with
   | some b'=>some ((y::la).map (fun x=>(x.1,.seq x.2 b'))++lb)
   | none=>none
  | _,_=>none
 | .label l=>some [(l,.skip)]
 | .region _ _ _=>some []
 | .cond _ _ _=>some []
 | .block _ _=>some []
 | .loop _=>some []
 | .exit _=>some []
 | .ret=>some []
 | .skip=>some []
 | .goto _=>some []
 | _=>none
end
def jM(P:Program)(tr:XN):List ResultVar->Option (List E)
 | []=>some []
 | .tmp t::r=>match idxOf tr t,jM P tr r with
  | some j,some l=>some (.var j::l)
  | _,_=>none
 | .cell a t::r=>match idxOf tr a,jz P t,fB P t,jM P tr r with
  | some j,some agg,some n,some l=>some (.node (.ld n agg) (.cons (.var j) .nil)::l)
  | _,_,_,_=>none
def mq(G:Nat):Operand->Bool
 | .const v=>gT v
 | .global g=>g<G
 | _=>true
def opsOK(P:Program)(nt:Nat)(ops:List Oper):Bool:=
 ops.all λo=>(match o.dst with|some d=>d<nt|none=>true)&&(resolve P o.op).2.all (mq P.globals.size)
def b7(P:Program)(nt:Nat):Code->Bool
 | .region _ ops _=>opsOK P nt ops.toList
 | .seq a b=>b7 P nt a&&b7 P nt b
 | .cond _ a b=>b7 P nt a&&b7 P nt b
 | .block _ b | .loop b=>b7 P nt b
 | .scope b=>b7 P nt b
 | _=>true
def kl(ops:List Oper):Option Nat:=
 match ops[ops.dropLast.length]? with
 | some o=>match o.op,o.dst,o.guard with
  | .defer ⟨.value<|.tmp t,args,_⟩,none,none=>if args.isEmpty then some t else none
  | _,_,_=>none
 | none=>none
def sk(P:Program)(tr:XN)(nt:Nat):Code->Option (Stm×Nat×Array Oper×Code)
 | .seq (.region id ops draw) y=>
  if !draw&&(kl ops.toList).isSome then some (.skip,id,ops,y) else
  match sk P tr nt y with
  | none=>none
  | some (s,r)=>match bF P tr (.region id ops draw)with
   | some a'=>if b7 P nt (.region id ops draw) then some (.seq a' s,r) else none
   | none=>none
 | .seq a b=>match sk P tr nt b with
  | none=>none
  | some (s,r)=>match bF P tr a with
   | some a'=>if b7 P nt a then some (.seq a' s,r) else none
   | none=>none
 | _=>none
def KK:Code->Option (Nat×Array Oper×List Oper×Nat×Code)
 | .seq (.region id ops draw) rest=>match draw,ops.toList with
  | false,o::l=>match o.op,o.dst,o.guard with
   | .call ⟨.builtin .recover,args,_⟩,some t,none=>if args.isEmpty then some (id,ops,{ o with op:=.move (.tmp t) }::l,t,rest) else none
   | _,_,_=>none
  | _,_=>none
 | _=>none
def aD(P:Program)(tr:XN)(f:FuncId):Option CF:=
 match P.funcs[f]? with
 | some fn=>match fn.body with
  | some c=>
   let np:=fn.params.size+fn.nfree
   if tr.take np = List.range np ∧ nodup tr = true ∧ tr.all (· < fn.ntmps) = true ∧ np ≤ tr.length ∧ fn.name ≠ "runtime.NumGoroutine" ∧ np ≤ fn.ntmps then
    match jM P tr fn.results.toList with
    | none=>none
    | some r=>
    match KK c with
    | some (_,_,ops',t,rest)=>
     match idxOf tr t,gU P tr ops' false,bF P tr rest with
     | some k,some l,some b=>if opsOK P fn.ntmps ops'=true/\b7 P fn.ntmps rest=true/\fn.results.isEmpty=true/\np<=t then some ⟨np,tr.length,[],.seq (ez l) b,.rcv k⟩ else none
     | _,_,_=>none
    | none=>
    match sk P tr fn.ntmps c with
    | some (b,_,ops,y)=>
     match (kl ops.toList).bind (idxOf tr),gU P tr ops.toList.dropLast false,bF P tr y with
     | some j,some l,some s=>if opsOK P fn.ntmps ops.toList.dropLast=true/\b7 P fn.ntmps y=true then some ⟨np,tr.length,r,b,.dfr (ez l) j s⟩ else none
     | _,_,_=>none
    | none=>
    match bF P tr c with
    | some b=>if b7 P fn.ntmps c=true then some ⟨np,tr.length,r,b,.plain⟩ else none
    | none=>none
   else none
  | none=>none
 | none=>none
end Go.Abs
