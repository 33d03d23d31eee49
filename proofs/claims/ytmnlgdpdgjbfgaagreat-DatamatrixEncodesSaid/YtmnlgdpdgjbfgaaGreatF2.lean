/- Lemmas. -/
import Derived.Test.YtmnlgdpdgjbfgaaGreatF1
set_option linter.all false
namespace Go.Abs
def Heap.keeps(φ:Map)(H H':Heap):Prop:=H.length<=H'.length/\∀i c p,φ i=some p->H'.get i=some c->∃d,H.get i=some d
structure Eff (φ:Map)(base G lo:Nat)(H:Heap)(w:World)(φ':Map)(H':Heap)(w':World):Prop where
 le:φ.le φ'
 rel:HRel φ' base G H' w'
 keeps:Heap.keeps φ H H'
 size:w.heap.size<=w'.heap.size
 keep:∀b,b<w.heap.size->(∀i c p,lo<=i->H.get i=some c->φ i=some p->p.b≠b)->w'.heap[b]?=w.heap[b]?
 fresh:∀i p,φ i=none->φ' i=some p->w.heap.size<=p.b\/∃j c q,lo<=j/\H.get j=some c/\φ j=some q/\q.b=p.b
 os:w'.os=w.os
 out:w'.output=w.output
section
variable {P:Program}{φ:Map}{base G lo:Nat}{H:Heap}{w:World}
theorem HRel.congr{w':World}(h:HRel φ base G H w)(e:w'.heap=w.heap):HRel φ base G H w':=
 ⟨λi c hc=>by grind[cell],h.inj,h.dom,h.glob,λi p hp=>by rw[e];exact h.plc i p hp⟩
theorem HRel.place(h:HRel φ base G H w){i:Nat}{c:List Value}(hc:H.get i=some c):∃p,φ i=some p:=by grind[cell]
theorem HRel.block_lt(h:HRel φ base G H w){i:Nat}{c:List Value}{p:Place}(hc:H.get i=some c)(hp:φ i=some p):p.b<w.heap.size:=by grind[cell]
theorem Heap.keeps_refl(H:Heap):Heap.keeps φ H H:=⟨Nat.le_refl _,λ_ c _ _ h=>⟨c,h⟩⟩
theorem Heap.keeps_trans{j:Map}{H f g:Heap}(e:φ.le j)(a:Heap.keeps φ H f)(b:Heap.keeps j f g):Heap.keeps φ H g:=
 ⟨Nat.le_trans a.1 b.1,λi c p h k=>by
  have⟨d,l⟩:=b.2 i c p (e i p h) k;exact a.2 i d p h l⟩
theorem Eff.refl(h:HRel φ base G H w):Eff φ base G lo H w φ H w:=
 ⟨Map.le_refl φ,h,Heap.keeps_refl H,Nat.le_refl _,λ_ _ _=>rfl,λi p a b=>by simp_all,rfl,rfl⟩
theorem Eff.drawn{a:Map}{H':Heap}{w':World}(h:Eff φ base G lo H w a H' w')(n:Nat):Eff φ base G lo H w a H' { w' with drawn:=n }:=
 ⟨h.le,h.rel.congr rfl,h.keeps,h.size,h.keep,h.fresh,h.os,h.out⟩
theorem Eff.of_drawn{a:Map}{H':Heap}{w':World}{n:Nat}(h:Eff φ base G lo H { w with drawn:=n } a H' w'):Eff φ base G lo H w a H' w':=
 ⟨h.le,h.rel,h.keeps,h.size,h.keep,h.fresh,h.os,h.out⟩
theorem Eff.trans{e k:Map}{l n:Heap}{t u:World}(a:Eff φ base G lo H w e l t)(b:Eff e base G lo l t k n u):Eff φ base G lo H w k n u:=by
 have o:∀j c q,lo<=j->l.get j=some c->e j=some q->w.heap.size<=q.b\/∃j c g,lo<=j/\H.get j=some c/\φ j=some g/\g.b=q.b:=by
  intro j c q z v B;cases m:φ j with
  | some g=>
   have⟨d,I⟩:=a.keeps.2 j c g m v;have:=a.le j g m
   grind
  | none=>exact a.fresh j q m B
 refine⟨Map.le_trans a.le b.le,b.rel,Heap.keeps_trans a.le a.keeps b.keeps,Nat.le_trans a.size b.size,?_,?_,b.os.trans a.os,b.out.trans a.out⟩
 .intro x s A
  rw[b.keep x (bd₀ s a.size) ?_,a.keep x s A]
  grind
 .intro i p y r
  cases f:e i with
  | some q=>
   have:=b.le i q f;rw[r]at this;cases this;exact a.fresh i p y f
  | none=>
   rcases b.fresh i p f r with h|⟨j,c,q,C,D,E,F⟩
   .exact .inl<|Nat.le_trans a.size h
   grind
theorem Heap.get_append_left{H:Heap}{x:Option<|List Value}{i:Nat}(h:i<H.length):Heap.get (H++[x]) i=H.get i:=by grind[get]
theorem Heap.get_append_right{H:Heap}{x:Option<|List Value}:Heap.get (H++[x]) H.length=x:=by unfold Heap.get;simp;cases x<;>rfl
theorem Heap.get_append_out{H:Heap}{x:Option<|List Value}{i:Nat}(h:H.length<i):Heap.get (H++[x]) i=none:=by grind[get]
theorem Heap.get_set{H:Heap}{i j:Nat}{x:Option<|List Value}(h:i<H.length):Heap.get (H.set i x) j=if j=i then x else H.get j:=by
 unfold Heap.get;by_cases e:i=j
 .subst e;simp[h];cases x<;>rfl
 grind
def Map.set(φ:Map)(i:Nat)(p:Place):Map:=λj=>if j=i then some p else φ j
theorem Map.le_set{i:Nat}(h:∀p,φ i≠some p)(p:Place):φ.le<|φ.set i p:=by
 intro j q a
 grind[set]
theorem kO(o:Obj):(w.alloc o).heap=w.heap.push o:=rfl
theorem my(o:Obj){b:Nat}(h:b<w.heap.size):(w.alloc o).heap[b]?=w.heap[b]?:=by grind[kO]
theorem ru(o:Obj):(w.alloc o).heap[w.heap.size]?=some o:=by grind[kO]
theorem Eff.allocF(o:HRel φ base G H w){arr:Array Value}{c:List Value}(ty:TypeId)(B:Nat×Nat)(D:NoFrz arr.size B)(A:c.length<=arr.size)(W:∀(j:Nat) v,c[j]?=some v->∃u,arr[j]?=some u/\VRel φ v u) :
  Eff φ base G lo H w (φ.set H.length ⟨w.heap.size,0,arr.size⟩) (H++[some c]) (w.alloc<|.cells arr ty B)/\(φ.set H.length ⟨w.heap.size,0,arr.size⟩) H.length=some ⟨w.heap.size,0,arr.size⟩:=by
 have r:∀p,φ H.length≠some p:=λp e=>absurd (o.dom _ p e) byO;have m:=Map.le_set r ⟨w.heap.size,0,arr.size⟩;have f:(φ.set H.length ⟨w.heap.size,0,arr.size⟩) H.length=some ⟨w.heap.size,0,arr.size⟩:=by simp[Map.set]
 have k:∀i,i<H.length->(φ.set H.length ⟨w.heap.size,0,arr.size⟩) i=φ i:=λi x=>by simp[Map.set];omega
 have a:∀i d,Heap.get (H++[some c]) i=some d->(i<H.length/\H.get i=some d)\/(i=H.length/\d=c):=by
  intro i d l;by_cases s:i<H.length
  .rw[Heap.get_append_left s]at l;exact .inl ⟨s,l⟩
  .by_cases h:i=H.length
   .subst h;rw[Heap.get_append_right]at l;cases l;exact .inr ⟨rfl,rfl⟩
   .rw[Heap.get_append_out byO]at l;simp at l
 refine⟨⟨m,⟨?_,?_,?_,?_,?_⟩,⟨by simp,?_⟩,by rw[kO];simp,?_,?_,rfl,rfl⟩,f⟩
 .intro i d l
  rcases a i d l with ⟨s,h⟩|⟨rfl,rfl⟩
  .have⟨p,O,t,V,L,Q,R,S,T,U⟩:=o.cell i d h
   have z:=o.block_lt h L;exact⟨p,O,t,V,m _ _ L,by rw[my _ z];exact Q,R,S,λj v I=>by
    have⟨u,F,E⟩:=T j v I;exact⟨u,F,E.mono m⟩,U⟩
  .refine⟨_,arr,ty,B,f,ru _,by simp,A,λj v I=>?_,λ_=>D⟩
   have⟨u,F,E⟩:=W j v I;exact⟨u,by simpa using F,E.mono m⟩
 .intro i j J K p q x Y e y z C
  rcases a i J x with ⟨s,h⟩|⟨rfl,rfl⟩<;>rcases a j K Y with ⟨M,N⟩|⟨rfl,rfl⟩
  .rw[k _ s]at e;rw[k _ M]at y
   exact o.inj i j J K p q h N e y z C
  .rw[k _ s]at e;rw[f]at y;cases y
   have:=o.block_lt h e;simp at C;omega
  .rw[k _ M]at y;rw[f]at e;cases e
   have:=o.block_lt N y;simp at C;omega
  .rfl
 .intro i p e
  by_cases h:i=H.length
  .subst h;simp
  .simp[Map.set,h]at e
   have:=o.dom i p e;simp;omega
 .intro g X
  have⟨n,Z⟩:=o.glob g X;exact⟨n,m _ _ Z⟩
 .intro i p e
  rw[kO,Array.size_push];by_cases h:i=H.length
  .subst h;rw[f]at e;cases e;exact Nat.lt_succ_self _
  .simp[Map.set,h]at e
   have:=o.plc i p e;omega
 .intro i d p x l
  rw[Heap.get_append_left<|o.dom i p x]at l;exact⟨d,l⟩
 .intro b z _;exact my _ z
 .intro i p x e
  by_cases h:i=H.length
  .subst h;rw[f]at e;cases e;exact .inl<|Nat.le_refl _
  .simp[Map.set,h]at e
   rw[x]at e;simp at e
theorem Eff.alloc(b:HRel φ base G H w){arr:Array Value}{c:List Value}(ty:TypeId)(a:c.length<=arr.size)(d:∀(j:Nat) v,c[j]?=some v->∃u,arr[j]?=some u/\VRel φ v u) :
  Eff φ base G lo H w (φ.set H.length ⟨w.heap.size,0,arr.size⟩) (H++[some c]) (w.alloc<|.cells arr ty)/\(φ.set H.length ⟨w.heap.size,0,arr.size⟩) H.length=some ⟨w.heap.size,0,arr.size⟩:=
 Eff.allocF b ty (0,0) (.inl rfl) a d
structure OneTurned (w w':World)(b:Nat)(arr':Array Value):Prop where
 at_:∃arr ty fr,w.heap[b]?=some (.cells arr ty fr)/\w'.heap[b]?=some (.cells arr' ty fr)/\arr'.size=arr.size
 other:∀x,x≠b->w'.heap[x]?=w.heap[x]?
 size:w'.heap.size=w.heap.size
 os:w'.os=w.os
 out:w'.output=w.output
theorem OneTurned.frz{w':World}{b:Nat}{arr':Array Value}(h:OneTurned w w' b arr')(a:Addr):w'.frozen? a=w.frozen? a:=by grind[World.frozen?,at_,other]
theorem iK(b:Nat):∀(vs:List Value) (o:Nat) (w:World) (arr:Array Value) (ty:TypeId) (a:Nat×Nat),w.heap[b]?=some (.cells arr ty a)->o+vs.length<=arr.size ->
  (w.setCells b o vs).heap[b]?=some (.cells (putCells arr.toList o vs).toArray ty a)/\(∀x,x≠b->(w.setCells b o vs).heap[x]?=w.heap[x]?) /\
  (w.setCells b o vs).heap.size=w.heap.size/\(w.setCells b o vs).os=w.os/\(w.setCells b o vs).output=w.output
 | [],o,w,arr,ty,a,h,c=>by
  simp[World.setCells,putCells,h]
 | v::vs,o,w,arr,ty,a,h,c=>by
  simp at c;have e:(w.setCell ⟨b,o,none⟩ v).heap[b]?=some (.cells (arr.setIfInBounds o v) ty a):=by
   grind[World.setCell]
  have⟨d,f,g,i,j⟩:=iK b vs (o+1) (w.setCell ⟨b,o,none⟩ v) (arr.setIfInBounds o v) ty a e (by simp;omega);refine⟨?_,?_,?_,?_,?_⟩
  .rw[World.setCells,d]
   have:=oM o (v::vs) 0 arr byO
   grind[List.zipIdx_cons,oM]
  all_goals grind[World.setCells,World.setCell]
theorem Eff.turn(hH:HRel φ base G H w){i:Nat}{c c':List Value}{p:Place}(hc:H.get i=some c)(hp:φ i=some p)(hb:base<=i)(hlo:lo<=i){w':World}{arr':Array Value}
  (ht:OneTurned w w' p.b arr') (hl:c'.length<=p.n) (hr:∀(j:Nat) v,c'[j]?=some v->∃u,arr'[p.s+j]?=some u/\VRel φ v u) :
  Eff φ base G lo H w φ (H.set i (some c')) w':=by
 have hi:=Heap.get_lt hc;have get':∀j d,Heap.get (H.set i (some c')) j=some d->(j=i/\d=c')\/(j≠i/\H.get j=some d):=by
  grind[Heap.get_set]
 have live:∀j d,Heap.get (H.set i (some c')) j=some d->∃d',H.get j=some d':=by
  grind
 obtain⟨arr,ty,fr,t1,t2,t3⟩:=ht.at_;obtain⟨p',arr0,ty0,fr0,e1,e2,e3,e4,e5,e6⟩:=hH.cell i c hc;rw[hp]at e1;cases e1;rw[t1]at e2;cases e2;refine⟨Map.le_refl φ,⟨?_,?_,?_,hH.glob,fun i p hp=>by rw[ht.size];exact hH.plc i p hp⟩,⟨by simp,?_⟩,by grind[OneTurned.size],?_,?_,ht.os,ht.out⟩
 ·grind[HRel.cell,HRel.inj,OneTurned.other]
 ·grind[HRel.inj]
 ·intro x p hp;have:=hH.dom x p hp;simp_all
 all_goals grind[OneTurned.other]
theorem Eff.mark(hH:HRel φ base G H w){i:Nat}{c:List Value}{p:Place}(hc:H.get i=some c)(hp:φ i=some p)(hlo:lo<=i)(hb:base<=i){arr:Array Value}{ty:TypeId}{fr:Nat×Nat}(ha:w.heap[p.b]?=some (.cells arr ty fr)) :
  Eff φ base G lo H w φ H (w.freeze ⟨p.b,arr.size,none⟩ 1):=by
 have hfr:NoFrz arr.size fr:=by
  grind[HRel.cell]
 obtain⟨flo,fhi⟩:=fr;have hw:∀x,(w.freeze ⟨p.b,arr.size,none⟩ 1).heap[x]?=if p.b=x then some (.cells arr ty (if flo==fhi then(arr.size,arr.size+1) else(min flo arr.size,max fhi (arr.size+1)))) else w.heap[x]?:=by
  grind[World.freeze]
 have hno:NoFrz arr.size (if flo==fhi then(arr.size,arr.size+1) else(min flo arr.size,max fhi (arr.size+1))):=by
  split
  ·exact .inr (Nat.le_refl _)
  ·rename_i hne
   rcases hfr with h|h
   ·simp_all
   ·right;omega
 have hsz:(w.freeze ⟨p.b,arr.size,none⟩ 1).heap.size=w.heap.size:=by simp[World.freeze]
 refine⟨Map.le_refl φ,⟨?_,hH.inj,hH.dom,hH.glob,fun i p hp=>by rw[hsz];exact hH.plc i p hp⟩,Heap.keeps_refl H,byO,?_,fun x q hx hq=>by simp_all,by rfl,by rfl⟩
 all_goals grind[HRel.cell]
theorem Eff.renew(hH:HRel φ base G H w){i:Nat}{c c':List Value}{p:Place}(hc:H.get i=some c)(hp:φ i=some p)(hb:base<=i)(hlo:lo<=i){w':World}{arr':Array Value}{o:Nat}
  (ht:OneTurned w w' p.b arr') (hl:o+c'.length<=p.n) (hr:∀(j:Nat) v,c'[j]?=some v->∃u,arr'[p.s+o+j]?=some u/\VRel φ v u) :
  Eff φ base G lo H w (φ.set H.length ⟨p.b,p.s+o,p.n-o⟩) (H.set i none++[some c']) w'/\(φ.set H.length ⟨p.b,p.s+o,p.n-o⟩) H.length=some ⟨p.b,p.s+o,p.n-o⟩:=by
 have hi:=Heap.get_lt hc;have hnone:∀p,φ H.length≠some p:=fun p hp=>absurd (hH.dom _ p hp) byO;have hle:=Map.le_set hnone ⟨p.b,p.s+o,p.n-o⟩;have hnew:(φ.set H.length ⟨p.b,p.s+o,p.n-o⟩) H.length=some ⟨p.b,p.s+o,p.n-o⟩:=by simp[Map.set]
 have hold:∀i,i<H.length->(φ.set H.length ⟨p.b,p.s+o,p.n-o⟩) i=φ i:=fun i hi=>by simp[Map.set];omega
 have hlen:(H.set i none).length=H.length:=by simp
 have get':∀j d,Heap.get (H.set i none++[some c']) j=some d->(j=H.length/\d=c')\/(j≠i/\j<H.length/\H.get j=some d):=by
  intro j d hd;by_cases h1:j<H.length
  ·rw[Heap.get_append_left (by rw[hlen];exact h1),Heap.get_set hi]at hd
   split at hd
   ·simp at hd
   ·rename_i e;exact .inr ⟨e,h1,hd⟩
  ·by_cases h2:j=H.length
   ·rw[h2,<-hlen,Heap.get_append_right]at hd
    simp at hd;exact .inl ⟨h2,hd.symm⟩
   ·rw[Heap.get_append_out (by rw[hlen];omega)]at hd;simp at hd
 obtain⟨arr,ty,fr,t1,t2,t3⟩:=ht.at_;obtain⟨p',arr0,ty0,fr0,e1,e2,e3,e4,e5,e6⟩:=hH.cell i c hc;rw[hp]at e1;cases e1;rw[t1]at e2;cases e2;refine⟨⟨hle,⟨?_,?_,?_,?_,?_⟩,⟨by simp,?_⟩,by rw[ht.size];exact Nat.le_refl _,?_,?_,ht.os,ht.out⟩,hnew⟩
 ·intro j d hd
  rcases get' j d hd with ⟨rfl,rfl⟩|⟨hj,hlt,h⟩
  ·refine⟨_,arr',ty,fr,hnew,t2,?_,?_,?_,fun hb=>by rw[t3];exact e6 byO⟩
   ·simp;omega
   ·simp;omega
   ·intro j v hv
    obtain⟨u,hu,hv'⟩:=hr j v hv;exact⟨u,hu,hv'.mono hle⟩
  ·obtain⟨q,ar,t,f,a1,a2,a3,a4,a5,a6⟩:=hH.cell j d h
   have:q.b≠p.b:=fun e=>hj (hH.inj i j c d p q hc h hp a1 hb e.symm).symm;exact⟨q,ar,t,f,hle _ _ a1,by rw[ht.other _ this];exact a2,a3,a4,fun j v hv=>by
    obtain⟨u,hu,hr⟩:=a5 j v hv;exact⟨u,hu,hr.mono hle⟩,a6⟩
 ·intro x y cx cy q r hx hy hq hr' hbx he
  rcases get' x cx hx with ⟨rfl,rfl⟩|⟨h1,h2,h3⟩<;>rcases get' y cy hy with ⟨rfl,rfl⟩|⟨h4,h5,h6⟩
  ·rfl
  ·rw[hnew]at hq;cases hq
   rw[hold _ h5]at hr';simp at he;exact absurd (hH.inj i y c cy p r hc h6 hp hr' hb he).symm h4
  ·rw[hnew]at hr';cases hr'
   rw[hold _ h2]at hq;simp at he;exact absurd (hH.inj i x c cx p q hc h3 hp hq hb he.symm).symm h1
  ·rw[hold _ h2]at hq;rw[hold _ h5]at hr'
   exact hH.inj x y cx cy q r h3 h6 hq hr' hbx he
 ·intro x p hp
  by_cases h2:x=H.length
  ·subst h2;simp
  ·simp[Map.set,h2]at hp
   have:=hH.dom x p hp;simp;omega
 ·intro g hg
  obtain⟨n,hn⟩:=hH.glob g hg;exact⟨n,hle _ _ hn⟩
 ·intro x q hq
  rw[ht.size];by_cases h2:x=H.length
  ·subst h2;rw[hnew]at hq;cases hq;exact hH.plc i p hp
  ·simp[Map.set,h2]at hq
   exact hH.plc x q hq
 ·intro x d p hx hd
  rcases get' x d hd with ⟨rfl,_⟩|⟨_,_,h⟩
  ·exact absurd hx (hnone p)
  ·exact⟨d,h⟩
 ·intro b hb' hn
  exact ht.other b (fun e=>hn i c p hlo hc hp e.symm)
 ·intro x q hx hq
  by_cases h2:x=H.length
  ·subst h2;rw[hnew]at hq;cases hq;exact .inr ⟨i,c,p,hlo,hc,hp,rfl⟩
  ·simp[Map.set,h2]at hq
   rw[hx]at hq;simp at hq
theorem pA(hH:HRel φ base G H w)(hbl:base<=lo){i off:Nat}{vs vs':List Value}{H':Heap}{p:Place}(hput:H.put lo i off vs=some H')(hp:φ i=some p)(hv:LRel φ vs vs')(h1:oneCells vs=true) :
  (storeCells ⟨p.b,p.s+off,none⟩ vs').run P w=.ok () (w.setCells p.b (p.s+off) vs')/\Eff φ base G lo H w φ H' (w.setCells p.b (p.s+off) vs'):=by
 unfold Heap.put at hput;split at hput
 ·rename_i c hc
  split at hput
  ·rename_i hcond
   obtain⟨hlo,hlen⟩:=hcond;simp at hput;subst hput;obtain⟨p',arr,ty,fr,e1,e2,e3,e4,e5,e6⟩:=hH.cell i c hc;rw[hp]at e1;cases e1;have hl':vs'.length=vs.length:=hv.1.symm;have hin:p.s+off+vs'.length<=arr.size:=byO;have hrun:=run_storeCells_cells (P:=P) p.b (p.s+off) vs' 0 w (fun j hj=>by
     simp[World.cell?,e2];omega) (fun j hj=>by
     have:=(e6 byO).not (p.s+off+j) byO;simp only[World.frozen?,e2,Nat.add_zero];simp at this ⊢;omega) (hv.oneCells h1)
   simp only[Nat.add_zero]at hrun;obtain⟨t1,t2,t3,t4,t5⟩:=iK p.b vs' (p.s+off) w arr ty fr e2 hin;refine⟨hrun,Eff.turn hH hc hp byO hlo (arr':=(putCells arr.toList (p.s+off) vs').toArray) ⟨⟨arr,ty,fr,e2,t1,?_⟩,t2,t3,t4,t5⟩ ?_ ?_⟩
   ·simp[putCells];omega
   ·simp[putCells];omega
   ·intro j v hj
    simp only[putCells,List.getElem?_append,List.getElem?_take,List.length_take,List.getElem?_drop]at hj;rw[Nat.min_eq_left (show off<=c.length by omega)]at hj;split at hj
    ·rename_i h1
     obtain⟨u,hu,hr⟩:=e5 j v hj;refine⟨u,?_,hr⟩;simp only[putCells,aj₀,List.getElem?_append,List.getElem?_take,List.length_take,Array.length_toList];rw[Nat.min_eq_left byO,if_pos byO,if_pos byO];simpa using hu
    ·rename_i h1
     split at hj
     ·rename_i h2
      have h3:j-off<vs'.length:=by rw[hl'];exact h2
      refine⟨vs'[j-off],?_,hv.2 (j-off) v _ hj (bc₀ h3)⟩;simp only[putCells,aj₀,List.getElem?_append,List.length_take,Array.length_toList];rw[Nat.min_eq_left byO,if_neg byO,if_pos byO];rw[show p.s+j-(p.s+off)=j-off by omega];exact bc₀ h3
     ·rename_i h2
      rw[show off+vs.length+(j-off-vs.length)=j by omega]at hj;obtain⟨u,hu,hr⟩:=e5 j v hj;refine⟨u,?_,hr⟩;simp only[putCells,aj₀,List.getElem?_append,List.length_take,List.getElem?_drop,Array.length_toList];rw[Nat.min_eq_left byO,if_neg byO,if_neg byO];rw[show p.s+off+vs'.length+(p.s+j-(p.s+off)-vs'.length)=p.s+j by omega];simpa using hu
  ·simp at hput
 ·simp at hput
end
section
variable {P:Program}{φ:Map}{base G lo:Nat}{H:Heap}{w:World}
theorem Eff.drop(hH:HRel φ base G H w){i:Nat}(hi:i<H.length):Eff φ base G lo H w φ (H.set i none) w:=by
 have get':∀j d,Heap.get (H.set i none) j=some d->H.get j=some d:=by
  grind[Heap.get_set]
 exact⟨Map.le_refl φ,⟨fun j d hd=>hH.cell j d (get' j d hd),fun x y cx cy q r hx hy=>hH.inj x y cx cy q r (get' x cx hx) (get' y cy hy),fun x p hp=>by have:=hH.dom x p hp;simp_all,hH.glob,hH.plc⟩,
  ⟨by simp,fun x d _ _ hd=>⟨d,get' x d hd⟩⟩,Nat.le_refl _,fun _ _ _=>rfl,fun x q hx hq=>by simp_all,rfl,rfl⟩
theorem pE(z:List Value)(n:Nat):(bH z n).length=n*z.length:=by
 simp_all[bH]
theorem vA(z:List Value):∀(n j:Nat),(bH z n)[j]?=if j<n*z.length then z[j%z.length]? else none
 | 0,j=>by simp[bH]
 | n+1,j=>by
  have e:bH z (n+1)=z++bH z n:=by simp[bH,List.replicate_succ]
  rw[e,List.getElem?_append];by_cases h:j<z.length
  ·rw[if_pos h,if_pos (by rw[Nat.add_mul];omega),Nat.mod_eq_of_lt h]
  ·rw[if_neg h,vA z n]
   have h1:(j-z.length<n*z.length)↔(j<(n+1)*z.length):=by rw[Nat.add_mul];omega
   simp only[h1];split
   ·rw[<-Nat.mod_eq_sub_mod byO]
   ·rfl
theorem kN{z:List Value}(hz:z.all bN=true)(n:Nat):LRel φ (bH z n) (bH z n):=by
 grind[cT,bH]
theorem pD(z:Array Value)(n m:Nat)(hm:m=n*z.size)(hz:0<z.size):((Array.range m).map (fun i=>z[i%z.size]!))=(bH z.toList n).toArray:=by
 apply Array.ext_getElem?
 grind[vA,pE]
theorem uL(need:Nat):∀(r c:Nat),c<=2*need+1000->Builtin.growBy need r c<=2*need+1000
 | 0,c,h=>h
 | r+1,c,h=>by
  unfold Builtin.growBy;split
  ·exact h
  ·exact uL need r _ byO
theorem AL{need cap:Nat}(h:cap<need):Builtin.nextslicecap need cap<=2*need+1000:=by
 unfold Builtin.nextslicecap;split
 ·omega
 ·split
  ·omega
  ·exact uL need 4 cap byO
theorem LRel.cellsOf{l l':List Value}(h:LRel φ l l'):∀(j:Nat) v,l[j]?=some v->∃u,l'.toArray[j]?=some u/\VRel φ v u:=by
 intro j v hv;have hlt:j<l'.length:=by rw[<-h.1];grind
 exact⟨l'[j],by simp[hlt],h.2 j v _ hv (bc₀ hlt)⟩
theorem tg(hH:HRel φ base G H w)(hbl:base<=lo){sT xT ty e:TypeId}{sz:Nat}{z:List Value}(hu:P.underlying sT=some (.slice e))(hxs:(∃d,P.underlying xT=some (.slice d))\/P.underlying xT=some .string)
  (hsz:eW P e=some sz) (hz:zeroOf P e=some z) (hpos:0<sz) (hzl:z.length=sz) (hsmall:kt P e=true) {s s' x':Value} {n:Nat} {new new':List Value} (hs:VRel φ s s') (hn:new.length=n*sz) (hnew:LRel φ new new') (h1:oneCells new=true)
  (hlen:∀w2:World,(Builtin.lenOf x').run P w2=.ok n w2) (hfirst:∀w2:World,w2.heap=w.heap->(Builtin.firstCells sz n x').run P w2=.ok new'.toArray w2) {v:Value} {H':Heap}
  (ha:aZ lo sz s new n H=some (v,H')) :
  ∃cv w' φ',(Builtin.append_ #[sT,xT] ty #[s',x']).run P w=.ok cv w'/\Eff φ base G lo H w φ' H' w'/\VRel φ' v cv:=by
 obtain⟨info,zv,hi,hzv,hzz,hzlen,hzp⟩:=ep hz;have hbytes:info.bytes<=4096:=by simpa[kt,hi]using hsmall
 have hisz:info.size=sz:=by rw[<-hzlen,hzl]
 have hzcells:zv.cells.size=sz:=by have:=congrArg List.length hzz;simp at this;omega
 have hzero:zv.cells=z.toArray:=by rw[<-hzz]
 have grow:∀(base':Option Addr) (len cap':Nat) (old old':List Value),s'=.slice base' len cap'->cap'<len+n->len+n<=br->old.length=len*sz->LRel φ old old' ->
   (∀w2:World,w2.heap=w.heap->(Builtin.firstCells sz len s').run P w2=.ok old'.toArray w2) ->
   ∃cv w',(Builtin.append_ #[sT,xT] ty #[s',x']).run P w=.ok cv w'/\∃φ',Eff φ base G lo H w φ' (H++[some (old++new)]) w'/\VRel φ' (.slice (some ⟨H.length,0,some sz⟩) (len+n) (len+n)) cv:=by
  intro base' len cap' old old' hs' hcap hmost hol hor hof;obtain⟨K,hK⟩:∃K,K=(Question.appendCap (len+n) cap' e).cut (w.tape w.drawn (.appendCap (len+n) cap' e)):=⟨_,rfl⟩;have hKge:len+n<=K:=by rw[hK];simp[Question.cut]
  have hrow:Builtin.zeroCells zv.cells (K-(len+n))=(bH z (K-(len+n))).toArray:=by
   unfold Builtin.zeroCells;rw[pD zv.cells (K-(len+n)) _ rfl byO,hzz]
  let arr:Array Value:=(old'++new'++bH z (K-(len+n))).toArray
  have harr:arr.size=K*sz:=by
   simp[arr,pE,<-hor.1,<-hnew.1,hol,hn,hzl];rw[<-Nat.add_mul,<-Nat.add_mul];congr 1;omega
  have hrel:LRel φ (old++new++bH z (K-(len+n))) (old'++new'++bH z (K-(len+n))):=(hor.append hnew).append (kN hzp _);obtain⟨eff,hnewid⟩:=Eff.alloc (lo:=lo) (w:={ w with drawn:=w.drawn+1 }) (hH.congr (w':={ w with drawn:=w.drawn+1 }) rfl) (arr:=arr) (c:=old++new) e
   (by rw[harr,as₀,hol,hn,<-Nat.add_mul];exact Nat.mul_le_mul_right _ hKge)
   (fun j v hv=>hrel.cellsOf j v (by rw[ax₀ (List.getElem?_eq_some_iff.1 hv).1];exact hv))
  refine⟨.slice (some ⟨w.heap.size,0,none⟩) (len+n) K,_,?_,_,Eff.of_drawn eff,?_⟩
  ·have hb:¬ (Builtin.nextslicecap (len+n) cap'*info.bytes>2^48):=by
    have h2:=AL hcap;have h3:Builtin.nextslicecap (len+n) cap'*info.bytes<=(2*(len+n)+1000)*4096:=Nat.mul_le_mul h2 hbytes;unfold br at hmost;omega
   have hi64:¬ (((len+n:Nat):Int)>IntKind.i64.max):=by
    have:IntKind.i64.max=9223372036854775807:=by decide
    rw[this];unfold br at hmost;omega
   subst hs';have hcapn:¬ (len+n<=cap'):=byO;have hti:∀w2:World,(typeInfo e).run P w2=.ok info w2:=fun w2=>by simp[typeInfo,hi]
   have hzv2:∀w2:World,(zeroValue e).run P w2=.ok zv w2:=fun w2=>cL hi hzv;have hch:(choose (.appendCap (len+n) cap' e)).run P w=.ok K { w with drawn:=w.drawn+1 }:=by
    rw[hK];simp[Question.forced]
   have hnr:∀w2:World,(newRow e arr).run P w2=.ok ⟨w2.heap.size,0,none⟩ (w2.alloc (.cells arr e)):=fun w2=>rfl;have harr':old'.toArray++new'.toArray++Builtin.zeroCells zv.cells (K-(len+n))=arr:=by rw[hrow];simp[arr]
   have hof':=hof { w with drawn:=w.drawn+1 } rfl;have hfirst':=hfirst { w with drawn:=w.drawn+1 } rfl;have hcond:¬ (((len+n:Nat):Int)>IntKind.i64.max/\(false=true\/info.bytes=0)):=fun h=>hi64 h.1;rcases hxs with ⟨d,hd⟩|hd<;>
   ·simp only[Builtin.append_,aj₀,List.getElem?_cons_zero,List.getElem?_cons_succ,Sem.run_bind,run_underlying hu,Result.andThen_ok,aj hsz,run_underlying hd,Sem.run_pure]
    simp only[Sem.run_ite,ah₀,if_false,Sem.run_bind,hlen,Result.andThen_ok,if_neg hcapn,hti];rw[if_neg (by simpa using hcond)];simp only[Result.andThen_ok,if_neg hb,hch,run_askRoom,hof',Bool.not_false,if_true,hfirst',hzv2,harr',hnr,Sem.run_pure]
  ·refine .sliceIn H.length 0 (len+n) (len+n) sz _ 0 K hnewid hKge (Nat.le_refl _) (.inl rfl) ?_
   simp;omega
 have inplace:∀(a:Addr) (len cap':Nat) (w':World),s'=.slice (some a) len cap'->len+n<=cap'->(storeCells (a.add (len*sz)) new').run P w=.ok () w' ->
   (Builtin.append_ #[sT,xT] ty #[s',x']).run P w=.ok (.slice (some a) (len+n) cap') w':=by
  intro a len cap' w' hs' hcap hst;subst hs';rcases hxs with ⟨d,hd⟩|hd<;>
  ·simp only[Builtin.append_,aj₀,List.getElem?_cons_zero,List.getElem?_cons_succ,Sem.run_bind,run_underlying hu,Result.andThen_ok,aj hsz,run_underlying hd,Sem.run_pure]
   simp only[Sem.run_ite,ah₀,if_false,Sem.run_bind,hlen,Result.andThen_ok,if_pos hcap,Bool.not_false,if_true,hfirst _ rfl,hst,Sem.run_pure]
 have cellsRun:∀(i o len o' c':Nat) (p:Place) (old:List Value),φ i=some p->(o'=o\/len=0)->H.cells i o (len*sz)=some old->s'=.slice (some ⟨p.b,p.s+o',none⟩) len c' ->
   old.length=len*sz/\∃old',LRel φ old old'/\(∀w2:World,w2.heap=w.heap->(Builtin.firstCells sz len s').run P w2=.ok old'.toArray w2)/\(∀(j:Nat) v,old'[j]?=some v->w.cell? ((⟨p.b,p.s+o,none⟩:Addr).add j)=some v):=by
  intro i o len o' c' p old hp ho hc hs';obtain⟨e1,old',e2,e3⟩:=hH.crel.cells hc hp;refine⟨e1,old',e2,fun w2 hw2=>?_,e3⟩;subst hs';have e4:∀(j:Nat) v,old'[j]?=some v->w2.cell? ((⟨p.b,p.s+o',none⟩:Addr).add j)=some v:=by
   intro j v hv;have h5:=e3 j v hv;rcases ho with rfl|rfl
   ·unfold World.cell? at h5 ⊢;rw[hw2];exact h5
   ·have:old'=[]:=List.eq_nil_of_length_eq_zero (by rw[<-e2.1,e1];simp)
    subst this;simp at hv
  have:=run_loadCells_list (P:=P) w2 ⟨p.b,p.s+o',none⟩ old' e4;rw[<-e2.1,e1]at this;simpa[Builtin.firstCells]using this
 have newLen:new'.length=n*sz:=by rw[<-hnew.1,hn]
 unfold aZ at ha;cases hs with
 | nilSlice len cap=>
  simp only at ha;split at ha
  ·rename_i hle
   simp at ha;obtain⟨rfl,rfl⟩:=ha;refine⟨.slice none (len+n) cap,w,φ,?_,Eff.refl hH,.nilSlice _ _⟩;rcases hxs with ⟨d,hd⟩|hd<;>
   ·simp only[Builtin.append_,aj₀,List.getElem?_cons_zero,List.getElem?_cons_succ,Sem.run_bind,run_underlying hu,Result.andThen_ok,aj hsz,run_underlying hd,Sem.run_pure]
    simp only[Sem.run_ite,ah₀,if_false,Sem.run_bind,hlen,Result.andThen_ok,if_pos hle,Bool.not_false,if_true,hfirst _ rfl,Sem.run_pure]
  ·rename_i hle
   split at ha
   ·simp at ha
   ·rename_i hm
    split at ha
    ·rename_i h0;subst h0
     simp at ha;obtain⟨rfl,rfl⟩:=ha;obtain⟨cv,w',e1,φ',e2,e3⟩:=grow none 0 cap [] [] rfl byO byO (by simp) (LRel.nil φ) (fun w2 _=>by simp[Builtin.firstCells]);refine⟨cv,w',φ',e1,by simpa using e2,by simpa using e3⟩
    ·simp at ha
 | slice i o len cap p hp=>
  simp only at ha;split at ha
  ·rename_i hle
   simp only[true_or,if_true,aa₀,ad₀]at ha;obtain⟨H1,hput,rfl,rfl⟩:=ha;obtain⟨e1,e2⟩:=pA (P:=P) hH hbl hput hp hnew h1;refine⟨_,_,φ,inplace ⟨p.b,p.s+o,none⟩ len cap _ rfl hle ?_,e2,.slice i o _ _ p hp⟩;rw[dM,Nat.add_assoc];exact e1
  ·rename_i hle
   split at ha
   ·simp at ha
   ·rename_i hm
    simp only[aa₀,ad₀]at ha;obtain⟨old,hold,rfl,rfl⟩:=ha;obtain⟨f1,old',f2,f3,_⟩:=cellsRun i o len o cap p old hp (.inl rfl) hold rfl;obtain⟨cv,w',e1,φ',e2,e3⟩:=grow (some ⟨p.b,p.s+o,none⟩) len cap old old' rfl byO byO f1 f2 f3;exact⟨cv,w',φ',e1,e2,e3⟩
 | sliceIn i o len cap zz p o' c' hp hc hl ho hnn=>
  simp only at ha;split at ha
  ·rename_i hle
   split at ha
   ·rename_i hzz
    have hzz:zz=sz:=by simpa using hzz
    subst hzz;simp only[aa₀,ad₀]at ha;obtain⟨H1,hput,rfl,rfl⟩:=ha;obtain⟨e1,e2⟩:=pA (P:=P) hH hbl hput hp hnew h1;refine⟨_,_,φ,inplace ⟨p.b,p.s+o',none⟩ len c' _ rfl byO ?_,e2,.sliceIn i o _ _ zz p o' c' hp hc hle ho hnn⟩;rcases ho with rfl|h0
    ·rw[dM,Nat.add_assoc];exact e1
    ·have:new'=[]:=List.eq_nil_of_length_eq_zero (by rw[newLen];rw[show n=0 by omega];simp)
     subst this;rfl
   ·simp at ha
  ·rename_i hle
   split at ha
   ·simp at ha
   ·rename_i hm
    split at ha
    ·rename_i hcond
     obtain⟨rfl,hlo⟩:=hcond;simp only[aa₀,ad₀]at ha;obtain⟨old,hold,rfl,rfl⟩:=ha;obtain⟨f1,old',f2,f3,f4⟩:=cellsRun i o len o' c' p old hp (ho.imp id (fun e=>by omega)) hold rfl;obtain⟨c,hci⟩:=Heap.cells_get hold;by_cases hfit:len+n<=c'
     ·obtain⟨p',arr,ty',fr,b1,b2,b3,b4,b5,b6⟩:=hH.cell i c hci
      rw[hp]at b1;cases b1;have hroom:(len+n)*zz<=c'*zz:=Nat.mul_le_mul_right _ hfit;rw[Nat.add_mul]at hroom;have hin:p.s+(o'+len*zz)+new'.length<=arr.size:=by rw[newLen];omega
      have hrun:=run_storeCells_cells (P:=P) p.b (p.s+(o'+len*zz)) new' 0 w (fun j hj=>by
        simp[World.cell?,b2];omega) (fun j hj=>by
        have:=(b6 byO).not (p.s+(o'+len*zz)+j) byO;simp only[World.frozen?,b2,Nat.add_zero];simp at this ⊢;omega) (hnew.oneCells h1)
      simp only[Nat.add_zero]at hrun;obtain⟨t1,t2,t3,t4,t5⟩:=iK p.b new' (p.s+(o'+len*zz)) w arr ty' fr b2 hin;obtain⟨eff,hnewid⟩:=Eff.renew (lo:=lo) hH hci hp byO hlo (w':=w.setCells p.b (p.s+(o'+len*zz)) new') (arr':=(putCells arr.toList (p.s+(o'+len*zz)) new').toArray) (o:=o') (c':=old++new)
       ⟨⟨arr,ty',fr,b2,t1,by simp[putCells];omega⟩,t2,t3,t4,t5⟩ (by rw[as₀,f1,hn];omega) (fun j v hv=>by
        rw[List.getElem?_append]at hv;simp only[putCells,aj₀,List.getElem?_append,List.getElem?_take,List.length_take,Array.length_toList];rw[Nat.min_eq_left byO];split at hv
        ·rename_i hj
         rw[f1]at hj;have ho':o'=o:=by
          rcases ho with h|h
          ·exact h
          ·exfalso
           have:len=0:=byO;subst this;simp at hj
         subst ho';rw[if_pos byO,if_pos byO];have hlt:j<old'.length:=by rw[<-f2.1,f1];exact hj
         have:=f4 j _ (bc₀ hlt);rw[dM]at this;simp only[World.cell?,b2,Option.isSome_none,ah₀,if_false]at this;refine⟨old'[j],?_,f2.2 j v _ hv (bc₀ hlt)⟩;rw[Array.getElem?_toList];exact this
        ·rename_i hj
         rw[f1]at hj hv;have hlt:j-len*zz<new'.length:=by rw[<-hnew.1];exact(List.getElem?_eq_some_iff.1 hv).1
         rw[if_neg byO,if_pos byO];refine⟨new'[j-len*zz],?_,hnew.2 _ v _ hv (bc₀ hlt)⟩;rw[show p.s+o'+j-(p.s+(o'+len*zz))=j-len*zz by omega];exact bc₀ hlt)
      refine⟨_,_,_,inplace ⟨p.b,p.s+o',none⟩ len c' _ rfl hfit (by rw[dM,Nat.add_assoc];exact hrun),eff,?_⟩;have:=VRel.sliceIn (φ:=φ.set H.length ⟨p.b,p.s+o',p.n-o'⟩) H.length 0 (len+n) (len+n) zz _ 0 c' hnewid hfit (Nat.le_refl _) (.inl rfl) (by simp;omega);simpa using this
     ·obtain⟨cv,w',e1,φ',e2,e3⟩:=grow (some ⟨p.b,p.s+o',none⟩) len c' old old' rfl byO byO f1 f2 f3
      have hi:=Heap.get_lt hci;have hset:(H++[some (old++new)]).set i none=H.set i none++[some (old++new)]:=List.set_append_left _ _ hi;refine⟨cv,w',φ',e1,?_,e3⟩;rw[<-hset];exact Eff.trans e2 (Eff.drop e2.rel (by simp;omega))
    ·simp at ha
 | _=>simp at ha
end
section
variable {P:Program}{φ:Map}{base G lo:Nat}{H:Heap}{w:World}
def HOp.isCall:HOp->Bool
 | .call _ | .callC=>true
 | _=>false
def Ml(cv:Value)(nx:Next):Prop:=nx=.value cv\/(nx=.skip/\cv=undef)
theorem Bp(f:Nat->Value):(Array.range 0).map f=#[]:=by
 simp_all
theorem gX:VRel φ undef undef:=.tuple _ _ rfl (fun j x y hx=>by simp at hx)
theorem mW{v c:Value}(h:VRel φ v c):∀a l k,v=.slice (some a) l k->∃p o' k',φ a.block=some p/\c=.slice (some ⟨p.b,p.s+o',none⟩) l k'/\(o'=a.off\/l=0):=by
 intro a l k e;cases h<;>simp at e
 ·rename_i i o l' c' p hp;obtain⟨rfl,rfl,rfl⟩:=e;exact⟨p,o,_,hp,rfl,.inl rfl⟩
 ·rename_i i o l' c0 z p o' c' hp hc hl ho hn;obtain⟨rfl,rfl,rfl⟩:=e;exact⟨p,o',c',hp,rfl,ho.imp id (fun e=>by omega)⟩
theorem mr(hH:HRel φ base G H w){a:Addr}{n m sz:Nat}{k:Nat}{c:Value}{l:List Value}(hv:VRel φ (.slice (some a) n k) c)(hm:m<=n)(hc:H.cells a.block a.off (m*sz)=some l) :
  l.length=m*sz/\∃l',LRel φ l l'/\∀w2:World,w2.heap=w.heap->(Builtin.firstCells sz m c).run P w2=.ok l'.toArray w2:=by
 obtain⟨p,o',k',hp,rfl,ho⟩:=mW hv a n k rfl;obtain⟨e1,l',e2,e3⟩:=hH.crel.cells hc hp;refine⟨e1,l',e2,fun w2 hw2=>?_⟩;have e4:∀(j:Nat) v,l'[j]?=some v->w2.cell? ((⟨p.b,p.s+o',none⟩:Addr).add j)=some v:=by
  rcases ho with rfl|rfl
  ·grind[World.cell?]
  ·have:l'=[]:=List.eq_nil_of_length_eq_zero (by rw[<-e2.1,e1,show m=0 by omega];simp)
   simp_all
 have:=run_loadCells_list (P:=P) w2 ⟨p.b,p.s+o',none⟩ l' e4;rw[<-e2.1,e1]at this
 assumption
theorem rn(u:World)(arr:Array Value)(e:TypeId):World.freeze ({ u with heap:=u.heap.push (.cells arr e) }) { block:=u.heap.size,off:=arr.size } 1=u.alloc (.cells arr e (arr.size,arr.size+1)):=by
 unfold World.freeze;rw[if_neg (by decide)];congr 1
 grind
theorem te{argTypes:Array TypeId}{sT xT ty:TypeId}{s x:Value}(h:argTypes[0]?=some sT/\argTypes[1]?=some xT):Builtin.append_ argTypes ty #[s,x]=Builtin.append_ #[sT,xT] ty #[s,x]:=by
 simp[Builtin.append_,h.1,h.2]
set_option maxHeartbeats 1000000 in
theorem F7{o:Oper}{h:HOp}{xs:List Operand}{callA:dq}(hr:bJ P o.op=some (.h h,xs))(hnc:h.isCall=false){ρa ρc:Operand->Value}(hρ:∀x ∈ xs,VRel φ (ρa x) (ρc x))
  (hH:HRel φ base G H w) (hbl:base<=lo) {v:Value} {H':Heap} (hs:hsem callA lo h (xs.map ρa) H=some (v,H')) :
  ∃nx cv w' φ',(execOp ρc o).run P w=.ok nx w'/\Ml cv nx/\Eff φ base G lo H w φ' H' w'/\VRel φ' v cv:=by
 obtain⟨dst,op,type,pos,after,guard⟩:=o;have wrap:∀{s:Sem Value} {cv:Value} {w':World},s.run P w=.ok cv w'->(do pure (Next.value (<-s)):Sem Next).run P w=.ok (.value cv) w':=by
  intro s cv w' hrun;simp only[Sem.run_bind,hrun,Result.andThen_ok,Sem.run_pure]
 cases op<;>simp only[bJ]at hr
 case alloc t=>
  simp only[aa₀,ad₀,ROp.h.injEq]at hr;obtain⟨z,hz,rfl,rfl⟩:=hr;obtain⟨i,zv,hi,hzv,hzz,hzl,hzp⟩:=ep hz;simp[hsem]at hs;obtain⟨rfl,rfl⟩:=hs;obtain⟨eff,hnew⟩:=Eff.alloc (lo:=lo) hH (arr:=zv.cells) (c:=z) t (by rw[<-hzz];simp) (by
   have:=(cT φ hzp).cellsOf;rw[<-hzz]at this ⊢;simpa using this)
  refine⟨_,_,_,_,?_,.inl rfl,eff,VRel.ptr _ 0 _ hnew⟩;simp only[execOp];refine wrap ?_;simp only[Instr.alloc,Sem.run_bind,cL hi hzv,Result.andThen_ok,newVar,newRow,run_newObj,Sem.run_pure];rfl
 case box t x=>
  simp at hr;obtain⟨rfl,rfl⟩:=hr;have hx:=hρ x (by simp);simp[hsem]at hs;obtain⟨rfl,rfl⟩:=hs;obtain⟨eff,hnew⟩:=Eff.alloc (lo:=lo) hH (arr:=(ρc x).cells) (c:=(ρa x).cells.toList) t (by have:=hx.cells.1;simp at this;simp;omega) (by simpa using hx.cells.cellsOf);refine⟨_,_,_,_,?_,.inl rfl,eff,VRel.ptr _ 0 _ hnew⟩;simp only[execOp];refine wrap ?_;simp only[Instr.box,newVar,newRow,Sem.run_bind,run_newObj,Result.andThen_ok,Sem.run_pure];rfl
 case store t a x=>
  simp only[aa₀,ad₀,ROp.h.injEq]at hr;obtain⟨n,hn,rfl,rfl⟩:=hr;have ha:=hρ a (by simp);have hx:=hρ x (by simp);simp only[ag₀,al₀]at hs;simp only[execOp];generalize ρa a=av at ha hs;generalize ρc a=ac at ha ⊢;cases ha<;>simp only[hsem]at hs<;>try (simp at hs;done)
  rename_i i o p hp;split at hs
  ·rename_i hcond
   simp only[aa₀,ad₀]at hs;obtain⟨H1,hput,rfl,rfl⟩:=hs;obtain⟨e1,e2⟩:=pA (P:=P) hH hbl hput hp hx.cells hcond.2;have hsz:(ρc x).cells.size=n:=by have:=hx.cells.1;simp at this;omega
   refine⟨.skip,undef,_,φ,?_,.inr ⟨rfl,rfl⟩,e2,gX⟩;simp only[Instr.storeAt,Instr.sureAddr,storeVar,Sem.run_bind,Sem.run_pure,Result.andThen_ok,aj hn,hsz,ne_eq,not_true_eq_false,if_false,e1]
  ·simp at hs
 case makeSlice t l c=>
  simp only[execOp];split at hr<;>try (simp at hr;done)
  rename_i e hu;simp only[ae₀]at hr;obtain⟨z,hz,hr⟩:=hr;split at hr<;>try (simp at hr;done)
  rename_i hpos;simp at hr;obtain⟨rfl,rfl⟩:=hr;have hl:=hρ l (by simp);have hc:=hρ c (by simp);simp only[ag₀,al₀]at hs;generalize ρa l=la at hl hs;generalize ρc l=lc at hl ⊢;generalize ρa c=ca at hc hs;generalize ρc c=cc at hc ⊢;cases hl<;>cases hc<;>simp only[hsem]at hs<;>try (simp at hs;done)
  rename_i k1 n1 k2 n2;split at hs<;>try (simp at hs;done)
  rename_i hb;simp at hs;obtain⟨rfl,rfl⟩:=hs;obtain⟨i,zv,hi,hzv,hzz,hzl,hzp⟩:=ep hz;have hzs:zv.cells.size=z.length:=by rw[<-hzz];simp
  have hisz:eW P e=some z.length:=by simp[eW,hi,hzl]
  obtain⟨eff,hnew⟩:=Eff.alloc (lo:=lo) hH (arr:=(bH z n2.toNat).toArray) (c:=bH z n2.toNat) e (by simp) ((kN hzp _).cellsOf);refine⟨_,_,_,_,?_,.inl rfl,eff,VRel.slice _ 0 _ _ _ hnew⟩;refine wrap ?_;have hm:(br:Int)=4294967296:=rfl;have hby:i.bytes<=4096:=by simpa[kt,hi]using hpos.2
  have w1:IntKind.i64.wrap n1=n1:=IntWalk.i64_in _ byO;have w2:IntKind.i64.wrap n2=n2:=IntWalk.i64_in _ byO;have hti:∀w2:World,(typeInfo e).run P w2=.ok i w2:=fun w2=>by simp[typeInfo,hi]
  have hbound:(i.bytes:Int)*n2<=4096*4294967296:=Int.mul_le_mul byO byO byO byO;simp only[Instr.makeSlice,Sem.run_bind,run_underlying hu,Result.andThen_ok,asInt,asIntOf,Sem.run_pure,hti,w1,w2];rw[if_neg (by simp;omega)];simp only[Sem.run_bind,run_askRoom,Result.andThen_ok,aj hisz,Sem.run_ite,Sem.run_pure,cL hi hzv];by_cases h0:n2.toNat*z.length=0
  ·have hn0:n2.toNat=0:=by rcases Nat.mul_eq_zero.1 h0 with h|h<;>omega
   simp only[h0,if_true,Result.andThen_ok,newRow,Sem.run_bind,run_newObj,Sem.run_pure];rw[Bp];simp[hn0,bH,World.alloc_eq]
  ·simp only[h0,if_false,Result.andThen_ok,newRow,Sem.run_bind,run_newObj,Sem.run_pure]
   rw[pD zv.cells n2.toNat _ (by rw[hzs]) byO,hzz];rfl
 case buildSlice t len parts=>
  simp only[execOp];split at hr<;>try (simp at hr;done)
  rename_i e hu;simp only[ae₀]at hr;obtain⟨z,hz,hr⟩:=hr;split at hr<;>try (simp at hr;done)
  rename_i hpos;simp only[ab₀,ad₀,ROp.h.injEq]at hr;obtain⟨rfl,rfl⟩:=hr;simp only[hsem,aa₀,ad₀]at hs;obtain⟨l,hl,rfl,rfl⟩:=hs;obtain⟨i,zv,hi,hzv,hzz,hzl,hzp⟩:=ep hz;have hzs:zv.cells.size=z.length:=by rw[<-hzz];simp
  have hisz:eW P e=some z.length:=by simp[eW,hi,hzl]
  obtain⟨l',e1,e2⟩:=oL (fun i=>some (i*z.length,z.length)) _ (parts.toList.map (·.1)) _ _ _ _ l (by simp) (fun j a p ha hp=>by
    simp only[az₀,aa₀]at ha hp;obtain⟨x,hx,rfl⟩:=ha;obtain⟨y,⟨u,hu,rfl⟩,rfl⟩:=hp;rw[hx]at hu;cases hu;rfl) (LRel.map_left ρa ρc _ hρ) (kN hzp len) hl
  obtain⟨eff,hnew⟩:=Eff.alloc (lo:=lo) hH (arr:=l'.toArray) (c:=l) e (by simp[e2.1]) e2.cellsOf;refine⟨_,_,_,_,?_,.inl rfl,eff,VRel.slice _ 0 _ _ _ hnew⟩;refine wrap ?_;have hparts:(parts.map fun(p:Nat×Operand)=>(p.1,ρc p.2)).toList=(parts.toList.map (·.1)).zip ((parts.toList.map (·.2)).map ρc):=by
   rw[Array.toList_map];exact pz parts.toList ρc
  simp only[Instr.buildSlice,Sem.run_bind,run_underlying hu,Result.andThen_ok,aj hisz];rw[if_neg byO];simp only[Sem.run_bind,Sem.run_ite,Sem.run_pure,cL hi hzv,Result.andThen_ok,hparts];by_cases h0:len*z.length=0
  ·have hn0:len=0:=by rcases Nat.mul_eq_zero.1 h0 with h|h<;>omega
   subst hn0;simp only[h0,if_true];have:(bH z 0).toArray=#[]:=rfl;rw[this]at e1;rw[Bp,e1];rfl
  ·simp only[h0,if_false]
   rw[pD zv.cells len _ (by rw[hzs]) byO,hzz,e1];rfl
 case panic x=>simp at hr;obtain⟨rfl,rfl⟩:=hr;simp[hsem]at hs
 case typeAssert x xt t ok=>repeat' (first|(simp at hr;done)|split at hr)
 case call c=>
  obtain⟨callee,args,argTypes⟩:=c;cases callee<;>try (simp at hr;done)
  ·simp at hr;obtain⟨rfl,rfl⟩:=hr;simp[HOp.isCall]at hnc
  rename_i b;rw[oJ];cases b<;>try (simp at hr;done)
  case len=>simp only at hr;repeat' (first|(simp at hr;done)|split at hr)
  case append=>
   simp only at hr;split at hr<;>try (simp at hr;done)
   rename_i sT xT s x hsT hxT hargs;have hA:args=#[s,x]:=by rw[<-Array.toArray_toList (xs:=args),hargs]
   subst hA;split at hr<;>try (simp at hr;done)
   ·rename_i e e' hu hux
    split at hr<;>try (simp at hr;done)
    rename_i sz z hsz hz;split at hr<;>try (simp at hr;done)
    rename_i hcond;simp at hr;obtain⟨rfl,rfl⟩:=hr;have hsr:=hρ s (by simp);have hxr:=hρ x (by simp);simp only[ag₀,al₀]at hs;simp only[builtin,List.map_toArray,ag₀,al₀];have hat:argTypes[0]?=some sT/\argTypes[1]?=some xT:=⟨hsT,hxT⟩;rw[te hat];have fin:∀{n:Nat} {new new':List Value},new.length=n*sz->LRel φ new new'->oneCells new=true->(∀w2:World,(Builtin.lenOf (ρc x)).run P w2=.ok n w2) ->
      (∀w2:World,w2.heap=w.heap->(Builtin.firstCells sz n (ρc x)).run P w2=.ok new'.toArray w2)->aZ lo sz (ρa s) new n H=some (v,H')->_:=
     fun a1 a2 a3 a4 a5 a6=>tg (P:=P) (ty:=type) hH hbl hu (.inl ⟨_,hux⟩) hsz hz hcond.1 hcond.2.1 hcond.2.2 hsr a1 a2 a3 a4 a5 a6
    have key:∃cv w' φ',(Builtin.append_ #[sT,xT] type #[ρc s,ρc x]).run P w=.ok cv w'/\Eff φ base G lo H w φ' H' w'/\VRel φ' v cv:=by
     cases hxv:ρa x<;>rw[hxv]at hs hxr<;>try (simp[hsem]at hs;done)
     rename_i a n k;cases a with
     | none=>
      simp only[hsem]at hs;split at hs<;>try (simp at hs;done)
      rename_i hn0;subst hn0;generalize ρc x=xc at hxr fin;cases hxr;exact fin (n:=0) (new:=[]) (new':=[]) (by simp) (LRel.nil φ) rfl (fun w2=>rfl) (fun w2 _=>rfl) hs
     | some a=>
      simp only[hsem,ae₀]at hs;obtain⟨new,hnew,hs⟩:=hs;split at hs<;>try (simp at hs;done)
      rename_i h1;obtain⟨e1,new',e2,e3⟩:=mr (P:=P) hH hxr (Nat.le_refl n) hnew;refine fin e1 e2 h1 (fun w2=>?_) e3 hs;obtain⟨p,o',k',hp,he,ho⟩:=mW hxr a n k rfl;rw[he];rfl
    obtain⟨cv,w',φ',k1,k2,k3⟩:=key;exact⟨_,cv,w',φ',wrap k1,.inl rfl,k2,k3⟩
   ·rename_i e hu hux
    split at hr<;>try (simp at hr;done)
    rename_i z hsz hz;split at hr<;>try (simp at hr;done)
    rename_i hcond;simp at hr;obtain⟨rfl,rfl⟩:=hr;have hsr:=hρ s (by simp);have hxr:=hρ x (by simp);simp only[ag₀,al₀]at hs;simp only[builtin,List.map_toArray,ag₀,al₀];have hat:argTypes[0]?=some sT/\argTypes[1]?=some xT:=⟨hsT,hxT⟩;rw[te hat];generalize ρa x=xa at hs hxr;generalize ρc x=xc at hxr ⊢;cases hxr<;>try (simp[hsem]at hs;done)
    rename_i st;simp only[hsem]at hs;have hbytes:LRel φ (st.data.toList.map fun b=>Value.int .u8 b.toNat) (st.data.toList.map fun b=>Value.int .u8 b.toNat):=cT φ (List.all_eq_true.2 (fun x hx=>by obtain⟨b,_,rfl⟩:=List.mem_map.1 hx;rfl));obtain⟨cv,w',φ',k1,k2,k3⟩:=tg (P:=P) (ty:=type) (x':=.string st) hH hbl hu (.inr hux) hsz hz byO hcond.1 hcond.2 hsr (by simp) hbytes (List.all_eq_true.2 (fun x hx=>by obtain⟨b,_,rfl⟩:=List.mem_map.1 hx;rfl))
     (fun w2=>rfl) (fun w2 _=>by
      simp only[Builtin.firstCells,Sem.run_pure];congr 1;have:st.extract 0 st.size=st:=by
       apply ByteArray.ext;simp
      rw[this];apply Array.toList_inj.1;simp) hs
    exact⟨_,cv,w',φ',wrap k1,.inl rfl,k2,k3⟩
  case copy=>
   simp only at hr;split at hr<;>try (simp at hr;done)
   rename_i dT d s hdT hargs;have hA:args=#[d,s]:=by rw[<-Array.toArray_toList (xs:=args),hargs]
   subst hA;split at hr<;>try (simp at hr;done)
   rename_i e hu;simp only[aa₀,ad₀,ROp.h.injEq]at hr;obtain⟨sz,hsz,rfl,rfl⟩:=hr;have hdr:=hρ d (by simp);have hsr:=hρ s (by simp);simp only[ag₀,al₀]at hs;simp only[builtin,List.map_toArray,ag₀,al₀];have key:∃cv w' φ',(Builtin.copy_ argTypes type #[ρc d,ρc s]).run P w=.ok cv w'/\Eff φ base G lo H w φ' H' w'/\VRel φ' v cv:=by
    generalize ρa d=da at hs hdr;generalize ρc d=dc at hdr ⊢;generalize ρa s=sa at hs hsr;generalize ρc s=sc at hsr ⊢;have run:∀(dp:Option Addr) (n k m:Nat) (new':List Value) (w':World),dc=.slice dp n k->(∀w2:World,(Builtin.lenOf sc).run P w2=.ok m w2)->(Builtin.firstCells sz (Nat.min m n) sc).run P w=.ok new'.toArray w ->
      (match dp with|some a=>(storeCells a new').run P w=.ok () w'|none=>w'=w)->(Builtin.copy_ argTypes type #[dc,sc]).run P w=.ok (.int .i64 (Nat.min m n:Nat)) w':=by
     intro dp n k m new' w' hd hl hf hst;subst hd;simp only[Builtin.copy_,hdT,aj₀,List.getElem?_cons_zero,List.getElem?_cons_succ,Sem.run_bind,run_underlying hu,Result.andThen_ok,hl,aj hsz,hf];cases dp with
     | none=>simp only at hst;subst hst;rfl
     | some a=>simp only at hst;simp only[Sem.run_bind,hst,Result.andThen_ok,Sem.run_pure];rfl
    have lenS:∀{a l k},sa=.slice a l k->∀w2:World,(Builtin.lenOf sc).run P w2=.ok l w2:=by
     intro a l k e w2;cases hsr<;>simp at e
     all_goals (obtain⟨rfl,rfl,rfl⟩:=e;rfl)
    have first0:∀{a l k},sa=.slice a l k->∀w2:World,(Builtin.firstCells sz 0 sc).run P w2=.ok #[] w2:=by
     intro a l k e w2;cases hsr<;>simp at e
     all_goals simp[Builtin.firstCells,loadCells,loadCellsFrom]
    cases hda:da<;>rw[hda]at hs hdr<;>try (simp[hsem]at hs;done)
    rename_i dp n k;cases hsa:sa<;>rw[hsa]at hs hsr<;>try (simp[hsem]at hs;done)
    all_goals try (cases dp<;>simp[hsem]at hs;done)
    rename_i sp m j;cases dp with
    | none=>
     simp only[hsem]at hs;split at hs<;>try (simp at hs;done)
     rename_i hn0;subst hn0;simp at hs;obtain⟨rfl,rfl⟩:=hs;cases hdr;have e0:Nat.min m 0=0:=Nat.min_zero m;have:=run none 0 k m [] w rfl (lenS hsa) (by rw[e0];exact first0 hsa _) rfl;rw[e0]at this;exact⟨_,w,φ,this,Eff.refl hH,.int _ _⟩
    | some da=>
     cases sp with
     | none=>
      simp only[hsem]at hs;split at hs<;>try (simp at hs;done)
      rename_i hn0;subst hn0;simp at hs;obtain⟨rfl,rfl⟩:=hs;obtain⟨p,o',k',hp,he,ho⟩:=mW hdr da n k rfl;have e0:Nat.min 0 n=0:=Nat.zero_min n;have:=run (some ⟨p.b,p.s+o',none⟩) n k' 0 [] w he (lenS hsa) (by rw[e0];exact first0 hsa _) rfl;rw[e0]at this;exact⟨_,w,φ,this,Eff.refl hH,.int _ _⟩
     | some a=>
      simp only[hsem,ae₀]at hs;obtain⟨new,hnew,hs⟩:=hs;split at hs<;>try (simp at hs;done)
      rename_i h1;simp only[aa₀,ad₀]at hs;obtain⟨H1,hput,rfl,rfl⟩:=hs;obtain⟨e1,new',e2,e3⟩:=mr (P:=P) hH hsr (Nat.min_le_left m n) hnew;obtain⟨p,o',k',hp,he,ho⟩:=mW hdr da n k rfl;obtain⟨f1,f2⟩:=pA (P:=P) hH hbl hput hp e2 h1;refine⟨_,_,φ,run (some ⟨p.b,p.s+o',none⟩) n k' m new' _ he (lenS hsa) (e3 w rfl) ?_,f2,.int _ _⟩;simp only;rcases ho with rfl|rfl
      ·exact f1
      ·have:new'=[]:=List.eq_nil_of_length_eq_zero (by rw[<-e2.1,e1];simp)
       subst this;rfl
   obtain⟨cv,w',φ',k1,k2,k3⟩:=key;exact⟨_,cv,w',φ',wrap k1,.inl rfl,k2,k3⟩
 case convert src dst x=>
  split at hr<;>try (simp at hr;done)
  ·split at hr<;>simp at hr
  rotate_left
  ·rename_i e0 e hu1 hu2
   split at hr<;>try (simp at hr;done)
   rename_i hu3;split at hr<;>try (simp at hr;done)
   rename_i hsd;subst hsd;simp at hr;obtain⟨rfl,rfl⟩:=hr;rw[hu1]at hu2;cases hu2;have hx:=hρ x (by simp);simp only[ag₀,al₀]at hs;simp only[execOp];generalize ρa x=xa at hs hx;generalize ρc x=xc at hx ⊢;cases hx<;>simp only[hsem,k9]at hs<;>try (simp at hs;done)
   rename_i i o l c p hp;split at hs
   ·rename_i d hd
    split at hs
    ·rename_i hlo
     simp at hs;obtain⟨rfl,rfl⟩:=hs;obtain⟨p',arr,ty,fr,e1,e2,e3,e4,e5,e6⟩:=hH.cell i d hd;rw[hp]at e1;cases e1;refine⟨_,.slice (some ⟨p.b,p.s+o,none⟩) l c,_,_,?_,.inl rfl,Eff.mark hH hd hp hlo byO e2,.slice _ _ _ _ _ hp⟩;refine wrap ?_;have hsh:World.shape? w p.b=some (ty,arr.size):=by simp[World.shape?,e2]
     simp only[convert,Sem.run_bind,run_underlying hu1,run_underlying hu3,Result.andThen_ok,beq_self_eq_true,markStringish,run_shape,hsh,run_freeze,Sem.run_pure]
    ·simp at hs
   ·simp at hs
  rename_i e hu1 hu2;split at hr<;>try (simp at hr;done)
  rename_i hu3;simp at hr;obtain⟨rfl,rfl⟩:=hr;have hx:=hρ x (by simp);simp only[ag₀,al₀]at hs;simp only[execOp];generalize ρa x=xa at hs hx;generalize ρc x=xc at hx ⊢;cases hx<;>simp only[hsem]at hs<;>try (simp at hs;done)
  rename_i st;simp at hs;obtain⟨rfl,rfl⟩:=hs;obtain⟨K,hK⟩:∃K,K=(Question.appendCap st.size 0 e).cut (w.tape w.drawn (.appendCap st.size 0 e)):=⟨_,rfl⟩;have hKge:st.size<=K:=by rw[hK];simp[Question.cut]
  have hch:(choose (.appendCap st.size 0 e)).run P w=.ok K { w with drawn:=w.drawn+1 }:=by
   rw[hK];simp[Question.forced]
  let arr:Array Value:=(st.data.map fun b=>Value.int .u8 b.toNat)++Array.replicate (K-st.size) (.int .u8 0)
  have hds:st.data.size=st.size:=rfl;have harr:arr.size=K:=by simp[arr];omega
  obtain⟨eff,hnew⟩:=Eff.allocF (lo:=lo) (hH.congr (w':={ w with drawn:=w.drawn+1 }) rfl) (arr:=arr) (c:=st.data.toList.map fun b=>Value.int .u8 b.toNat) e (arr.size,arr.size+1) (.inr (Nat.le_refl _))
   (by rw[harr];simp;omega) (fun j v hv=>by
    simp only[az₀,aa₀]at hv;obtain⟨b,hb,rfl⟩:=hv;have hlt:j<st.data.size:=by have:=(List.getElem?_eq_some_iff.1 hb).1;simpa using this
    refine⟨_,?_,.int _ _⟩;simp only[arr];rw[Array.getElem?_append_left (by simpa using hlt)];simp at hb;simp[hb])
  refine⟨_,.slice (some ⟨w.heap.size,0,none⟩) st.size K,_,_,?_,.inl rfl,Eff.of_drawn eff,?_⟩
  ·refine wrap ?_
   simp only[convert,Sem.run_bind,run_underlying hu1,run_underlying hu2,run_underlying hu3,Result.andThen_ok,Conv.stringToBytes,hch];simp only[newRow,Sem.run_bind,run_newObj,Result.andThen_ok,Sem.run_pure,markStringish,run_shape];have hsh:World.shape? ({ ({ w with drawn:=w.drawn+1 }:World)with heap:=w.heap.push (.cells arr e) }) w.heap.size=some (e,arr.size):=by
    simp[World.shape?]
   simp only[arr]at hsh;rw[hsh];simp only[run_freeze];have hfn:=rn ({ w with drawn:=w.drawn+1 }) arr e;simp only[arr]at hfn ⊢;rw[<-hfn];rfl
  ·refine .sliceIn H.length 0 st.size st.size 1 _ 0 K hnew hKge (Nat.le_refl _) (.inl rfl) ?_
   simp[harr]
 case makeFunc fn first captured=>cases fn<;>simp at hr
 all_goals first|(simp at hr;done)|(repeat' (first|(simp at hr;done)|split at hr|(simp only[ae₀,aa₀]at hr;obtain⟨_,_,hr⟩:=hr)))
end
inductive E where
 | var (j:Nat)
 | cst (v:Value)
 | nil
 | cons (a b:E)
 | node (o:LOp) (a:E)
 | pick (c a b:E)
def ev(S:List Value)(H:Heap):E->Option (List Value)
 | .var j=>match S[j]? with
  | some v=>some [v]
  | none=>none
 | .cst v=>some [v]
 | .nil=>some []
 | .cons a b=>match ev S H a with
  | some x=>match ev S H b with
   | some y=>some (x++y)
   | none=>none
  | none=>none
 | .node o a=>match ev S H a with
  | some vs=>match aJ o vs H with
   | some v=>some [v]
   | none=>none
  | none=>none
 | .pick c a b=>match ev S H c with
  | some [.bool true]=>ev S H a
  | some [.bool false]=>ev S H b
  | _=>none
def ev1(S:List Value)(H:Heap)(e:E):Option Value:=
 match ev S H e with
 | some [v]=>some v
 | _=>none
abbrev PC:=List (E×Bool)
def holds(S:List Value)(H:Heap):PC->Option Bool
 | []=>some true
 | (c,want)::r=>match ev1 S H c with
  | some (.bool b)=>if b=want then holds S H r else some false
  | _=>none
def evSets(S:List Value)(H:Heap):List (Nat×E)->Option (List (Nat×Value))
 | []=>some []
 | (j,e)::r=>match ev1 S H e with
  | some v=>match evSets S H r with
   | some l=>some ((j,v)::l)
   | none=>none
  | none=>none
def evChk(S:List Value)(H:Heap):List E->Bool
 | []=>true
 | e::r=>(ev S H e).isSome&&evChk S H r
def setAll(S:List Value):List (Nat×Value)->List Value
 | []=>S
 | (j,v)::r=>setAll (S.set j v) r
def ae:Value->Option Nat
 | .pointer (some a)=>some a.block
 | .slice (some a) _ _=>some a.block
 | _=>none
inductive Stm where
 | skip
 | sets (l:List (Nat×E)) (chk:List E)
 | hv (l:List (Nat×E)) (chk:List E) (pc:PC) (dst:Option Nat) (o:HOp) (a:E)
 | dist (a b:E)
 | seq (a b:Stm)
 | cond (c:E) (a b:Stm)
 | block (id:Nat) (b:Stm)
 | loop (b:Stm)
 | exit (id:Nat)
 | ret
 | scope (b alts:Stm)
 | alt (l:Nat) (s r:Stm)
def aa:Nat:=1000000
def cE:Nat:=999999
abbrev CallR:=Nat->FuncId->List Value->Heap->Option ((Value ⊕ Value)×Heap)
def CallR.ret(c:CallR):dq:=fun lo f args H=>match c lo f args H with
 | some (.inl v,H')=>some (v,H')
 | _=>none
def CallR.pan(c:CallR):dq:=fun lo f args H=>match c lo f args H with
 | some (.inr v,H')=>some (v,H')
 | _=>none
def cz(c:CallR)(lo:Nat):HOp->List Value->Heap->Option (Value×Heap)
 | .call false,.func (.func f) first cap::args,H=>c.pan lo f (first.toList++args++cap.toList) H
 | .pan,[.iface t v],H=>some (.iface t v,H)
 | _,_,_=>none
def jn:Stm->Stm
 | .hv l chk pc dst (.call false) a=>.hv l chk pc dst .callC a
 | .hv l chk pc dst .pan a=>.hv l chk pc dst .fail a
 | s=>s
inductive Ex where
 | normal
 | exit (id:Nat)
 | ret
abbrev Out:=Option (Ex×List Value×Heap)
def iter(f:List Value->Heap->Out):Nat->List Value->Heap->Out
 | 0,_,_=>none
 | n+1,S,H=>match f S H with
  | some (.normal,S',H')=>iter f n S' H'
  | r=>r
def hop(f:List Value->Heap->Out):Nat->Out->Out
 | 0,some (.exit j,S,H)=>if aa<=j then none else some (.exit j,S,H)
 | n+1,some (.exit j,S,H)=>if aa<=j then hop f n (f (.int .i64 ((j-aa:Nat):Int)::S) H) else some (.exit j,S,H)
 | _,o=>o
def exec(callA:CallR)(lo n:Nat):Stm->List Value->Heap->Out
 | .skip,S,H=>some (.normal,S,H)
 | .sets l chk,S,H=>match evSets S H l with
  | some vs=>if evChk S H chk then some (.normal,setAll S vs,H) else none
  | none=>none
 | .hv l chk pc dst o a,S,H=>match evSets S H l with
  | some vs=>if evChk S H chk then
    match holds S H pc with
    | some true=>match ev S H a with
     | some xs=>match hsem callA.ret lo o xs H with
      | some (v,H')=>some (.normal,match dst with|some d=>(setAll S vs).set d v|none=>setAll S vs,H')
      | none=>match cz callA lo o xs H with
       | some (v,H')=>some (.exit cE,v::setAll S vs,H')
       | none=>none
     | none=>none
    | some false=>some (.normal,match dst with|some d=>(setAll S vs).set d undef|none=>setAll S vs,H)
    | none=>none
   else none
  | none=>none
 | .dist a b,S,H=>match ev1 S H a,ev1 S H b with
  | some x,some y=>if ae x=none\/ae x≠ae y then some (.normal,S,H) else none
  | _,_=>none
 | .seq a b,S,H=>match exec callA lo n a S H with
  | some (.normal,S',H')=>exec callA lo n b S' H'
  | r=>r
 | .cond c a b,S,H=>match ev1 S H c with
  | some (.bool true)=>exec callA lo n a S H
  | some (.bool false)=>exec callA lo n b S H
  | _=>none
 | .block i b,S,H=>match exec callA lo n b S H with
  | some (.exit j,S',H')=>if j=i then some (.normal,S',H') else some (.exit j,S',H')
  | r=>r
 | .loop b,S,H=>iter (exec callA lo n b) n S H
 | .exit i,S,H=>some (.exit i,S,H)
 | .ret,S,H=>some (.ret,S,H)
 | .scope b alts,S,H=>hop (exec callA lo n alts) n (exec callA lo n b S H)
 | .alt l s r,S,H=>match S with
  | .int .i64 t::S0=>if t=(l:Nat) then exec callA lo n s S0 H else exec callA lo n r S H
  | _=>none
inductive CK where
 | plain
 | dfr (mid:Stm) (j:Nat) (rest:Stm)
 | rcv (j:Nat)
structure CF where
 np:Nat
 ns:Nat
 res:List E
 body:Stm
 kind:CK
def evList(S:List Value)(H:Heap):List E->Option (List Value)
 | []=>some []
 | e::r=>match ev1 S H e with
  | some v=>match evList S H r with
   | some l=>some (v::l)
   | none=>none
  | none=>none
def aM(vs:List Value):Value:=
 match vs with
 | [v]=>v
 | vs=>.tuple vs.toArray
def mg(cp:FuncId->Option CF)(callA:CallR)(lo n:Nat)(g:FuncId)(args:List Value)(rv:Value)(H:Heap):Option Heap:=
 match cp g with
 | some cg=>match cg.kind with
  | .rcv k=>if args.length=cg.np then
    match exec callA lo n cg.body ((args++List.replicate (cg.ns-cg.np) undef).set k rv) H with
    | some (.normal,_,H')|some (.ret,_,H')=>some H'
    | _=>none
   else none
  | _=>none
 | none=>none
def sf(res:List E)(S:List Value)(H:Heap):Option ((Value ⊕ Value)×Heap):=
 match evList S H res with
 | some vs=>some (.inl (aM vs),H)
 | none=>none
def kp(cp:FuncId->Option CF)(callA:CallR)(lo n:Nat)(res:List E)(body mid:Stm)(j:Nat)(rest:Stm)(S0:List Value)(H:Heap):Option ((Value ⊕ Value)×Heap):=
 match exec callA lo n body S0 H with
 | some (.ret,S,H')=>sf res S H'
 | some (.exit i,p::_,H')=>if i=cE then some (.inr p,H') else none
 | some (.normal,S,H')=>match exec callA lo n mid S H' with
  | some (.normal,S1,H1)=>match S1[j]? with
   | some (.func (.func g) first cap)=>match exec callA lo n rest S1 H1 with
    | some (.normal,S2,H2)|some (.ret,S2,H2)=>match mg cp callA lo n g (first.toList++cap.toList) .nilIface H2 with
     | some H3=>sf res S2 H3
     | none=>none
    | some (.exit i,p::S2,H2)=>if i=cE then
      match mg cp callA lo n g (first.toList++cap.toList) p H2 with
      | some H3=>sf res S2 H3
      | none=>none
     else none
    | _=>none
   | _=>none
  | _=>none
 | _=>none
def run(cp:FuncId->Option CF):Nat->CallR
 | 0=>fun _ _ _ _=>none
 | n+1=>fun lo f args H=>match cp f with
  | some cf=>if args.length=cf.np then
    match cf.kind with
    | .plain=>match exec (run cp n) lo n cf.body (args++List.replicate (cf.ns-cf.np) undef) H with
     | some (.normal,S,H')|some (.ret,S,H')=>match evList S H' cf.res with
      | some vs=>some (.inl (aM vs),H')
      | none=>none
     | some (.exit j,p::_,H')=>if j=cE then some (.inr p,H') else none
     | _=>none
    | .dfr mid j rest=>kp cp (run cp n) lo n cf.res cf.body mid j rest (args++List.replicate (cf.ns-cf.np) undef) H
    | .rcv _=>none
   else none
  | none=>none
structure Ent where
 t:Nat
 e:E
 pc:PC
 g:Option (Nat×Bool)
structure Obl where
 t:Nat
 pc:PC
 e:E
 g:Option (Nat×Bool)
structure CS where
 out:List Stm
 env:List Ent
 obl:List Obl
def idxOf(tr:List Nat)(t:Nat):Option Nat:=
 match tr with
 | []=>none
 | x::r=>if x=t then some 0 else(idxOf r t).map (·+1)
def jF(tr:List Nat)(env:List Ent)(t:Nat):Option Ent:=
 match env.find? (fun x=>x.t==t)with
 | some x=>some x
 | none=>(idxOf tr t).map fun j=>⟨t,.var j,[],none⟩
def opE(tr:List Nat)(env:List Ent):Operand->Option Ent
 | .tmp t=>jF tr env t
 | .const v=>if fX v then some ⟨0,.cst v,[],none⟩ else none
 | .func f=>some ⟨0,.cst (.func (.func f) #[] #[]),[],none⟩
 | .global g=>some ⟨0,.cst (.pointer (some ⟨g,0,none⟩)),[],none⟩
def lX(tr:List Nat)(env:List Ent):List Operand->Option (List Ent)
 | []=>some []
 | x::r=>match opE tr env x with
  | some a=>match lX tr env r with
   | some l=>some (a::l)
   | none=>none
  | none=>none
def jT:List Ent->E
 | []=>.nil
 | a::r=>.cons a.e (jT r)
def okG(g ge:Option (Nat×Bool)):Bool:=ge==none || ge==g
def bz:Operand->Option Nat
 | .tmp t=>some t
 | _=>none
def lu(els:E):PC->E->E
 | [],e=>e
 | (c,true)::r,e=>.pick c (lu els r e) els
 | (c,false)::r,e=>.pick c els (lu els r e)
def gF(tr:List Nat)(env:List Ent):List (Nat×E):=
 env.filterMap fun x=>(idxOf tr x.t).map fun j=>(j,lu (.cst undef) x.pc x.e)
def xz(env:List Ent)(t:Nat):Bool:=env.any (fun x=>x.t==t)
def rest(obl:List Obl)(g:Option (Nat×Bool))(ts:List Nat):List Obl:=obl.filter fun x=>!(x.g==g&&ts.contains x.t)
def Ce(obl:List Obl):List E:=obl.map fun x=>lu .nil x.pc x.e
def cD(ops:List Oper)(tr:List Nat)(env:List Ent)(g:Option (Nat×Bool)):Option PC:=
 match g with
 | none=>some []
 | some (j,want)=>match ops[j]? with
  | some o=>match o.dst with
   | some t=>(jF tr env t).map fun x=>x.pc++[(x.e,want)]
   | none=>none
  | none=>none
def ub(ops:List Oper)(g:Option (Nat×Bool))(tc:Option Nat)(side:Bool)(x:Ent):Bool:=
 okG g x.g || match x.g with
  | some (j,want)=>want==side&&(match ops[j]? with|some o=>o.dst==tc&&tc.isSome|none=>false)
  | none=>false
def qL(l:LOp)(es:List Ent):E:=
 match l,es with
 | .mv,[x]=>x.e
 | _,_=>.node l (jT es)
def cG(raised:Bool)(h:HOp):HOp:=match h with | .call _=>.call raised|h=>h
def mM(ops:List Oper)(env:List Ent)(d:Nat):Bool:=
 env.all fun x=>match x.g with
  | some (j,_)=>match ops[j]? with
   | some o=>!(o.dst==some d)
   | none=>true
  | none=>true
def pH(P:Program)(tr:List Nat)(ops:List Oper)(raised:Bool)(st:CS)(o:Oper):Option CS:=
 match cD ops tr st.env o.guard,resolve P o.op with
 | some pc,(.l l,xs)=>
  match o.dst with
  | none=>none
  | some d=>
   if xz st.env d || !mM ops (⟨d,.nil,[],o.guard⟩::st.env) d then none else
   match l,xs,lX tr st.env xs with
   | .pk,[xc,xa,xb],some [c,a,b]=>
    if okG o.guard c.g&&ub ops o.guard (bz xc) true a&&ub ops o.guard (bz xc) false b then
     let e:=E.pick c.e a.e b.e
     let obl:=rest st.obl o.guard ((bz xc).toList)
     let obl:=if okG o.guard a.g || !(c.g==o.guard) then obl else rest obl a.g ((bz xa).toList)
     let obl:=if okG o.guard b.g || !(c.g==o.guard) then obl else rest obl b.g ((bz xb).toList)
     some { st with env:=⟨d,e,pc,o.guard⟩::st.env,obl:=⟨d,pc,e,o.guard⟩::obl }
    else none
   | .pk,_,_=>none
   | l,xs,some es=>
    if es.all (fun x=>okG o.guard x.g) then
     let e:=qL l es
     some { st with env:=⟨d,e,pc,o.guard⟩::st.env,obl:=⟨d,pc,e,o.guard⟩::rest st.obl o.guard (xs.filterMap bz) }
    else none
   | _,_,none=>none
 | some pc,(.h h,xs)=>
  match lX tr st.env xs with
  | some es=>
   if es.all (fun x=>okG o.guard x.g) then
    let obl:=rest (st.obl.filter fun x=>!(idxOf tr x.t).isSome) o.guard (xs.filterMap bz)
    some { out:=.hv (gF tr st.env) (Ce obl) pc (o.dst.bind (idxOf tr)) (cG raised h) (jT es)::st.out,env:=[],obl:=[] }
   else none
  | none=>none
 | _,_=>none
def dh(P:Program)(tr:List Nat)(ops:List Oper)(raised:Nat->Bool):List Nat->CS->Option CS
 | [],st=>some st
 | i::r,st=>match ops[i]? with
  | some o=>match pH P tr ops (raised i) st o with
   | some st'=>dh P tr ops raised r st'
   | none=>none
  | none=>none
def eD:List Stm->Stm
 | []=>.skip
 | [s]=>s
 | s::r=>.seq s (eD r)
def flush(tr:List Nat)(st:CS):List Stm:=
 let l:=gF tr st.env
 let chk:=Ce (st.obl.filter fun x=>!(idxOf tr x.t).isSome)
 if l.isEmpty&&chk.isEmpty then st.out.reverse else st.out.reverse++[.sets l chk]
def fH(l:LOp):Bool:=match l with | .ld _ _ | .b2s=>true|_=>false
def iF(P:Program)(o:Oper):Nat:=
 match resolve P o.op with
 | (.l l,_)=>if fH l then 1 else 0
 | (.h h,_)=>match h with
  | .alloc _ | .box | .mkSl _ | .bSl _ _ _ | .s2b=>2
  | _=>3
def gk(P:Program)(o:Oper):Bool:=
 match resolve P o.op with
 | (.h (.call _),_)=>true
 | _=>false
def Rb(ops:List Oper):List Nat:=
 ops.foldl (init:=[]) fun acc o=>
  acc++[(o.after.toList.filter (Region.binds .any)).foldl (fun s e=>s ||| 2^e.on ||| (acc[e.on]?).getD 0) 0]
def NI(m n:Nat):List Nat:=(List.range n).filter fun i=>m.testBit i
def beforeL(ops:List Oper):List (List Nat):=(Rb ops).map fun m=>NI m ops.length
def ordered(b:List (List Nat))(i j:Nat):Bool:=((b[j]?).getD []).contains i || ((b[i]?).getD []).contains j
def bOf(b:List (List Nat))(i:Nat):List Nat:=(b[i]?).getD []
def sZ(ks:List Nat)(b:List (List Nat))(i:Nat):Bool:=
 (List.range ks.length).any fun j=>(ks[j]?).getD 0==1&&!ordered b i j
def Ms(ks:List Nat)(b:List (List Nat)):Nat->List Nat->List Nat->List Nat
 | 0,_,done=>done.reverse
 | n+1,left,done=>
  match left.find? (fun i=>(ks[i]?).getD 0<=1&&(bOf b i).all done.contains)with
  | some i=>Ms ks b n (left.erase i) (i::done)
  | none=>match left.find? (fun i=>2<=(ks[i]?).getD 0)with
   | some i=>Ms ks b n (left.erase i) (i::done)
   | none=>done.reverse
def kh(P:Program)(ops:List Oper):List Nat:=ops.map (iF P)
def dN(P:Program)(ops:List Oper)(draw:Bool):List Nat:=
 if draw then Ms (kh P ops) (beforeL ops) ops.length (List.range ops.length) [] else List.range ops.length
def fZ(P:Program)(ops:List Oper)(draw:Bool):List (Nat×Nat):=
 if draw then
  let ks:=kh P ops
  let b:=beforeL ops
  (List.range ops.length).flatMap fun i=>
   if (ks[i]?).getD 0==3&&!((ops[i]?).any (gk P)) then
    ((List.range ops.length).filter fun j=>(ks[j]?).getD 0==1&&!ordered b i j).map fun j=>(i,j)
   else[]
 else[]
def cN(P:Program)(ops:List Oper)(i:Nat):Option Operand:=
 match ops[i]? with
 | some o=>(resolve P o.op).2.head?
 | none=>none
def PB(P:Program)(o:Oper):List Nat:=
 (resolve P o.op).2.filterMap bz
def qt(P:Program)(ops:List Oper)(o:Oper):List Nat:=
 PB P o++(match o.guard with|some (j,_)=>(match ops[j]? with|some q=>q.dst.toList|none=>[])|none=>[])
def posOf(l:List Nat)(i:Nat):Nat:=(idxOf l i).getD l.length
def stays(ops:List Oper)(b:List (List Nat))(i:Nat)(x:Option Operand):Bool:=
 match x with
 | some (.tmp t)=>(List.range ops.length).all fun k=>!((ops[k]?).any fun o=>o.dst==some t) || (bOf b i).contains k
 | some (.const _)=>true
 | _=>false
def nodup(l:List Nat):Bool:=
 match l with
 | []=>true
 | x::r=>!r.contains x&&nodup r
def fQ(P:Program)(ops:List Oper):Bool:=
 let n:=ops.length
 let ks:=kh P ops
 let b:=beforeL ops
 let π:=dN P ops true
 let pairs:=fZ P ops true
 let rg:=List.range n
 π.length==n&&rg.all (fun i=>π.contains i)&&nodup π&&π.all (fun i=>decide (i<n)) &&
 rg.all (fun i=>(bOf b i).all fun j=>((ops[i]?).map fun o=>o.after.toList.any fun e=>Region.binds .any e&&(e.on==j || (bOf b e.on).contains j)).getD false) &&
 rg.all (fun i=>((ops[i]?).map fun o=>o.after.toList.all fun e=>!Region.binds .any e || e.on<i).getD false) &&
 rg.all (fun i=>(bOf b i).all fun j=>posOf π j<posOf π i) &&
 rg.all (fun i=>match (ops[i]?).bind (·.guard)with|some (j,_)=>(bOf b i).contains j|none=>true) &&
 rg.all (fun i=>rg.all fun j=>i==j || ordered b i j ||
  match ops[i]?,ops[j]? with
  | some o,some p=>match o.dst with
   | some d=>!(p.dst==some d)&&!((qt P ops p).contains d)
   | none=>true
  | _,_=>false) &&
 rg.all (fun i=>(ks[i]?).getD 0 != 3 || rg.all fun j=>i==j || ordered b i j ||
  match (ks[j]?).getD 0 with
  | 3=>false
  | 2=>posOf π i<posOf π j
  | 1=>posOf π j<posOf π i&&(sZ ks b i&&((ops[i]?).any (gk P)) || pairs.contains (i,j))
  | _=>true) &&
 pairs.all (fun q=>stays ops b q.1 (cN P ops q.1)&&stays ops b q.2 (cN P ops q.2))
def lL(P:Program)(tr:List Nat)(ops:List Oper)(draw:Bool):Option (List Stm):=
 (fZ P ops draw).foldlM (init:=[]) fun acc q=>
  match cN P ops q.1,cN P ops q.2 with
  | some x,some y=>match opE tr [] x,opE tr [] y with
   | some a,some c=>some (acc++[Stm.dist a.e c.e])
   | _,_=>none
  | _,_=>none
def cZ:CS:=⟨[],[],[]⟩
def bT(P:Program)(ops:List Oper)(draw:Bool):Nat->Bool:=
 if draw then sZ (kh P ops) (beforeL ops) else fun _=>false
def dD(P:Program)(tr:List Nat)(ops:List Oper)(draw:Bool):Option CS:=
 if draw&&!fQ P ops then none else
 dh P tr ops (bT P ops draw) (dN P ops draw) cZ
def pQ(P:Program)(ops:List Oper):Bool:=
 let ops':=ops.dropLast
 let n:=ops'.length
 (ops[n]?).any (gk P)&&(dN P ops true==dN P ops' true++[n]&&(fQ P ops'&&((fZ P ops true).isEmpty&&((fZ P ops' true).isEmpty &&
  ((List.range n).all (fun i=>bT P ops true i==bT P ops' true i)&&(!bT P ops true n&&((List.range n).all (fun j=>(bOf (beforeL ops) n).contains j) &&
  ops'.all (fun o=>match o.guard with|some (j,_)=>j<n|none=>true))))))))
def cX(P:Program)(ops:List Oper)(draw:Bool)(st:CS):CS:=
 if draw then
  { st with out:=match st.out with
   | []=>[]
   | s::r=>(if pQ P ops then s else jn s)::r.map jn }
 else st
def fY(P:Program)(tr:List Nat)(ops:List Oper)(draw:Bool):Option (List Stm):=
 match dD P tr ops draw,lL P tr ops draw with
 | some st,some ds=>some (flush tr (cX P ops draw st)++ds)
 | _,_=>none
def gC(P:Program)(tr:List Nat)(ops:List Oper)(draw:Bool)(c:Operand):Option (List Stm×E):=
 match dD P tr ops draw,lL P tr ops draw with
 | some st,some []=>
  if (gF tr st.env).isEmpty then
   match opE tr st.env c with
   | some x=>if x.g==none then
     let obl:=rest (st.obl.filter fun x=>!(idxOf tr x.t).isSome) none ((bz c).toList)
     some (if obl.isEmpty then(cX P ops draw st).out.reverse else(cX P ops draw st).out.reverse++[.sets [] (Ce obl)],x.e)
    else none
   | none=>none
  else match opE tr [] c with
   | some x=>some (flush tr (cX P ops draw st),x.e)
   | none=>none
 | some st,some ds=>match opE tr [] c with
  | some x=>some (flush tr (cX P ops draw st)++ds,x.e)
  | none=>none
 | _,_=>none
def Lt:Stm:=.cond .nil .skip .skip
mutual
def bA(P:Program)(tr:List Nat):Code->Option Stm
 | .skip=>some .skip
 | .region _ ops draw=>(fY P tr ops.toList draw).map eD
 | .seq (.region _ ops draw) (.cond c a b)=>
  match gC P tr ops.toList draw c,bA P tr a,bA P tr b with
  | some (l,e),some a',some b'=>some (eD (l++[.cond e a' b']))
  | _,_,_=>none
 | .seq (.region _ ops draw) (.seq (.cond c a b) r)=>
  match gC P tr ops.toList draw c,bA P tr a,bA P tr b,bA P tr r with
  | some (l,e),some a',some b',some r'=>some (.seq (eD (l++[.cond e a' b'])) r')
  | _,_,_,_=>none
 | .seq a b=>match bA P tr a,bA P tr b with
  | some a',some b'=>some (.seq a' b')
  | _,_=>none
 | .cond c a b=>match opE tr [] c,bA P tr a,bA P tr b with
  | some x,some a',some b'=>some (.cond x.e a' b')
  | _,_,_=>none
 | .block i b=>if i<cE then(bA P tr b).map (.block i) else none
 | .loop b=>(bA P tr b).map .loop
 | .exit i=>if i<cE then some (.exit i) else none
 | .ret=>some .ret
 | .label _=>some .skip
 | .goto l=>some (.exit (aa+l))
 | .scope c=>match bA P tr c,ct P tr c with
  | some c',some ls=>some (.scope c' (ls.foldr (fun x r=>.alt x.1 x.2 r) Lt))
  | _,_=>none
 | .rangeFunc _ _ _ _=>none
 | .refuse _=>none
def ct(P:Program)(tr:List Nat):Code->Option (List (Nat×Stm))
 | .seq a b=>match ct P tr a,ct P tr b with
  | some [],some lb=>some lb
  | some (y::la),some lb=>match bA P tr b with
   | some b'=>some ((y::la).map (fun x=>(x.1,.seq x.2 b'))++lb)
   | none=>none
  | _,_=>none
 | .label l=>some [(l,.skip)]
 | .region _ _ _=>some []
 | .cond _ _ _=>some []
 | .block _ _=>some []
 | .loop _=>some []
 | .exit _=>some []
 | .ret=>some []
 | .skip=>some []
 | .goto _=>some []
 | _=>none
end
def iR(P:Program)(tr:List Nat):List ResultVar->Option (List E)
 | []=>some []
 | .tmp t::r=>match idxOf tr t,iR P tr r with
  | some j,some l=>some (.var j::l)
  | _,_=>none
 | .cell a t::r=>match idxOf tr a,jR P t,eW P t,iR P tr r with
  | some j,some agg,some n,some l=>some (.node (.ld n agg) (.cons (.var j) .nil)::l)
  | _,_,_,_=>none
def kj(G:Nat):Operand->Bool
 | .const v=>fX v
 | .global g=>g<G
 | _=>true
def opsOK(P:Program)(nt:Nat)(ops:List Oper):Bool:=
 ops.all fun o=>(match o.dst with|some d=>d<nt|none=>true)&&(resolve P o.op).2.all (kj P.globals.size)
def bU(P:Program)(nt:Nat):Code->Bool
 | .region _ ops _=>opsOK P nt ops.toList
 | .seq a b=>bU P nt a&&bU P nt b
 | .cond _ a b=>bU P nt a&&bU P nt b
 | .block _ b | .loop b=>bU P nt b
 | .scope b=>bU P nt b
 | _=>true
def jy(ops:List Oper):Option Nat:=
 match ops[ops.dropLast.length]? with
 | some o=>match o.op,o.dst,o.guard with
  | .defer ⟨.value (.tmp t),args,_⟩,none,none=>if args.isEmpty then some t else none
  | _,_,_=>none
 | none=>none
def rM(P:Program)(tr:List Nat)(nt:Nat):Code->Option (Stm×Nat×Array Oper×Code)
 | .seq (.region id ops draw) y=>
  if !draw&&(jy ops.toList).isSome then some (.skip,id,ops,y) else
  match rM P tr nt y with
  | none=>none
  | some (s,r)=>match bA P tr (.region id ops draw)with
   | some a'=>if bU P nt (.region id ops draw) then some (.seq a' s,r) else none
   | none=>none
 | .seq a b=>match rM P tr nt b with
  | none=>none
  | some (s,r)=>match bA P tr a with
   | some a'=>if bU P nt a then some (.seq a' s,r) else none
   | none=>none
 | _=>none
def IM:Code->Option (Nat×Array Oper×List Oper×Nat×Code)
 | .seq (.region id ops draw) rest=>match draw,ops.toList with
  | false,o::l=>match o.op,o.dst,o.guard with
   | .call ⟨.builtin .recover,args,_⟩,some t,none=>if args.isEmpty then some (id,ops,{ o with op:=.move (.tmp t) }::l,t,rest) else none
   | _,_,_=>none
  | _,_=>none
 | _=>none
def aE(P:Program)(tr:List Nat)(f:FuncId):Option CF:=
 match P.funcs[f]? with
 | some fn=>match fn.body with
  | some c=>
   let np:=fn.params.size+fn.nfree
   if tr.take np = List.range np ∧ nodup tr = true ∧ tr.all (· < fn.ntmps) = true ∧ np ≤ tr.length ∧ fn.name ≠ "runtime.NumGoroutine" ∧ np ≤ fn.ntmps then
    match iR P tr fn.results.toList with
    | none=>none
    | some r=>
    match IM c with
    | some (_,_,ops',t,rest)=>
     match idxOf tr t,fY P tr ops' false,bA P tr rest with
     | some k,some l,some b=>if opsOK P fn.ntmps ops'=true/\bU P fn.ntmps rest=true/\fn.results.isEmpty=true/\np<=t then some ⟨np,tr.length,[],.seq (eD l) b,.rcv k⟩ else none
     | _,_,_=>none
    | none=>
    match rM P tr fn.ntmps c with
    | some (b,_,ops,y)=>
     match (jy ops.toList).bind (idxOf tr),fY P tr ops.toList.dropLast false,bA P tr y with
     | some j,some l,some s=>if opsOK P fn.ntmps ops.toList.dropLast=true/\bU P fn.ntmps y=true then some ⟨np,tr.length,r,b,.dfr (eD l) j s⟩ else none
     | _,_,_=>none
    | none=>
    match bA P tr c with
    | some b=>if bU P fn.ntmps c=true then some ⟨np,tr.length,r,b,.plain⟩ else none
    | none=>none
   else none
  | none=>none
 | none=>none
end Go.Abs
