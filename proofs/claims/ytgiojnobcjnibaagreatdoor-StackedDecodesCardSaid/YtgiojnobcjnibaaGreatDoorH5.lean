/- Lemmas. -/
import Derived.Test.YtgiojnobcjnibaaGreatDoorH4
set_option linter.all false
namespace Go.Abs
section
variable {P:Program}{callA:dd}{φ:Map}{lo:Nat}{H:Heap}{w:World}
def HOp.isAlloc:HOp->Bool
 | .alloc _ | .box | .mkSl _ | .bSl _ _ _ | .s2b=>true
 | _=>false
def Fo{o:Oper}{h:HOp}{xs:List Operand}(d:an P o.op=some (.h h,xs))(J:h.isAlloc=true){C g:Operand->Value}(I:∀x ∈ xs,VRel φ (C x)<|g x){v:Value}{H':Heap}
  (f:hsem callA lo h (xs.map C) H=some (v,H')) :
  ∃arr ty fz c cv dn,(execOp g o).run P w=.ok (.value cv) (({ w with drawn:=dn }:World).alloc<|.cells arr ty fz)/\H'=H++[some c]/\c.length<=arr.size /\
   (∀(j:Nat) v,c[j]?=some v->∃u,arr[j]?=some u/\VRel φ v u)/\NoFrz arr.size fz /\
   (∀ψ:Map,ψ H.length=some ⟨w.heap.size,0,arr.size,0⟩->VRel ψ v cv)/\∀S:Heap,S.length=H.length->hsem callA lo h (xs.map C) S=some (v,S++[some c]):=by
 obtain⟨dst,op,type,pos,l0,guard⟩:=o;have B:∀{s:Sem Value} {cv:Value} {w':World},s.run P w=.ok cv w'->(do pure (Next.value<|<-s):Sem Next).run P w=.ok (.value cv) w':=by
  intro s cv w' e0;simp[Sem.run_bind,e0,Result.andThen_ok,Sem.run_pure]
 have z0:({ w with drawn:=w.drawn }:World)=w:=rfl;cases op<;>simp only[an]at d
 case alloc t=>
  simp only[aa₀,ad₀,ROp.h.injEq]at d;obtain⟨z,hz,rfl,rfl⟩:=d;obtain⟨i,Z,O,G,A,R,F⟩:=fG hz;simp[hsem]at f;obtain⟨rfl,rfl⟩:=f;refine⟨Z.cells,t,(0,0),z,.pointer<|some ⟨w.heap.size,0,none⟩,w.drawn,?_,rfl,by rw[<-A];simp,?_,(.inl rfl),λψ q=>by simpa using VRel.ptr H.length 0 _ (Map.of_some.2 ⟨q,rfl⟩),λS N=>by simp[hsem,N]⟩
  .simp only[execOp]
   apply B;simp only[Instr.alloc,Sem.run_bind,bP O G,Result.andThen_ok,newVar,newRow,run_newObj,Sem.run_pure];rfl
  .have:=(cK φ F).cellsOf
   rw[<-A]at this ⊢;simpa using this
 case box t x=>
  simp at d;obtain⟨rfl,rfl⟩:=d;have V:=I x Wc;simp[hsem]at f;obtain⟨rfl,rfl⟩:=f;refine⟨(g x).cells,t,(0,0),(C x).cells.toList,.pointer<|some ⟨w.heap.size,0,none⟩,w.drawn,?_,rfl,by have:=V.cells.1;simp at this;simp;omega,by simpa using V.cells.cellsOf,(.inl rfl),λψ q=>by simpa using VRel.ptr H.length 0 _ (Map.of_some.2 ⟨q,rfl⟩),λS N=>by simp[hsem,N]⟩;simp only[execOp];apply B;simp only[Instr.box,newVar,newRow,Sem.run_bind,run_newObj,Result.andThen_ok,Sem.run_pure];rfl
 case makeSlice t l c=>
  simp only[execOp];split at d<;>try simp at d;done
  rename_i e hu;simp only[ae₀]at d;obtain⟨z,hz,d⟩:=d;split at d<;>try simp at d;done
  rename_i U;simp at d;obtain⟨rfl,rfl⟩:=d;have hl:=I l Wc;have hc:=I c Wc;simp only[ag₀,al₀]at f ⊢;generalize C l=la at hl f ⊢;generalize g l=lc at hl ⊢;generalize C c=ca at hc f ⊢;generalize g c=cc at hc ⊢;cases hl<;>cases hc<;>simp only[hsem]at f<;>try simp at f;done
  rename_i k1 n1 k2 L;split at f<;>try simp at f;done
  rename_i hb;simp at f;obtain⟨rfl,rfl⟩:=f;obtain⟨i,Z,O,G,A,R,F⟩:=fG hz;have Y:Z.cells.size=z.length:=by rw[<-A];simp
  have D:fB P e=some z.length:=by simp[fB,O,R]
  refine⟨(bK z L.toNat).toArray,e,(0,0),bK z L.toNat,.slice (some ⟨w.heap.size,0,none⟩) n1.toNat L.toNat,w.drawn,?_,rfl,Wc,(jd F _).cellsOf,(.inl rfl),λψ q=>by simpa using VRel.slice H.length 0 n1.toNat L.toNat _ (Map.of_some.2 ⟨q,rfl⟩),λS N=>by simp only[hsem];rw[if_pos hb,N]⟩;apply B;have hm:(cT:Int)=4294967296:=rfl;have H0:i.bytes<=4096:=by simpa[kL,O]using U.2
  have w1:IntKind.i64.wrap n1=n1:=IntWalk.i64_in _ byO;have w2:IntKind.i64.wrap L=L:=IntWalk.i64_in _ byO;have s0:∀w2:World,(typeInfo e).run P w2=.ok i w2:=λw2=>by simp[typeInfo,O]
  have j0:(i.bytes:Int)*L<=4096*4294967296:=Int.mul_le_mul byO byO byO byO;simp only[Instr.makeSlice,Sem.run_bind,run_underlying hu,Result.andThen_ok,asInt,asIntOf,Sem.run_pure,s0,w1,w2];rw[if_neg Wr];simp only[Sem.run_bind,run_askRoom,Result.andThen_ok,aW D,Sem.run_ite,Sem.run_pure,bP O G];by_cases W:L.toNat*z.length=0
  .have X:L.toNat=0:=by rcases Nat.mul_eq_zero.1 W with h|h<;>omega
   simp only[W,if_true,Result.andThen_ok,newRow,Sem.run_bind,run_newObj,Sem.run_pure];rw[DD];simp[X,bK,World.alloc_eq]
  .simp only[W,if_false,Result.andThen_ok,newRow,Sem.run_bind,run_newObj,Sem.run_pure]
   rw[nv Z.cells L.toNat _ (by rw[Y]) byO,A];rfl
 case buildSlice t len parts=>
  simp only[execOp];split at d<;>try simp at d;done
  rename_i e hu;simp only[ae₀]at d;obtain⟨z,hz,d⟩:=d;split at d<;>try simp at d;done
  rename_i U;simp only[ab₀,ad₀,ROp.h.injEq]at d;obtain⟨rfl,rfl⟩:=d;simp only[hsem,aa₀,ad₀]at f;obtain⟨l,hl,rfl,rfl⟩:=f;obtain⟨i,Z,O,G,A,R,F⟩:=fG hz;have Y:Z.cells.size=z.length:=by rw[<-A];simp
  have D:fB P e=some z.length:=by simp[fB,O,R]
  obtain⟨l',e1,e2⟩:=pI (λi=>some (i*z.length,z.length)) _ (parts.toList.map (·.1)) _ _ _ _ l Wc (λj a p ha hp=>by
    simp only[az₀,aa₀]at ha hp;obtain⟨x,V,rfl⟩:=ha;obtain⟨y,⟨u,hu,rfl⟩,rfl⟩:=hp;rw[V]at hu;cases hu;rfl) (LRel.map_left C g _ I) (jd F len) hl
  refine⟨l'.toArray,e,(0,0),l,.slice (some ⟨w.heap.size,0,none⟩) len len,w.drawn,?_,rfl,by simp[e2.1],e2.cellsOf,(.inl rfl),λψ q=>by simpa using VRel.slice H.length 0 len len _ (Map.of_some.2 ⟨q,rfl⟩),λS N=>by simp only[hsem,hl,Option.map_some,N]⟩;apply B;have Q:(parts.map λ(p:Nat×Operand)=>(p.1,g p.2)).toList=(parts.toList.map (·.1)).zip ((parts.toList.map (·.2)).map g):=by
   rw[Array.toList_map];exact qi parts.toList g
  simp only[Instr.buildSlice,Sem.run_bind,run_underlying hu,Result.andThen_ok,aW D];rw[if_neg byO];simp only[Sem.run_bind,Sem.run_ite,Sem.run_pure,bP O G,Result.andThen_ok,Q];by_cases W:len*z.length=0
  .have X:len=0:=by rcases Nat.mul_eq_zero.1 W with h|h<;>omega
   subst X;simp only[W,if_true];have:(bK z 0).toArray=#[]:=rfl;rw[this]at e1;rw[DD,e1];rfl
  .simp only[W,if_false]
   rw[nv Z.cells len _ (by rw[Y]) byO,A,e1];rfl
 case convert T0 dst x=>
  split at d<;>try simp at d;done
  .split at d<;>simp at d
  rotate_left
  .split at d<;>try simp at d;done
   split at d<;>try simp at d;done
   simp at d;obtain⟨rfl,rfl⟩:=d;simp[HOp.isAlloc]at J
  rename_i e w0 x0;split at d<;>try simp at d;done
  rename_i y0;simp at d;obtain⟨rfl,rfl⟩:=d;have V:=I x Wc;simp only[ag₀,al₀]at f ⊢;simp only[execOp];generalize C x=xa at f V ⊢;generalize g x=xc at V ⊢;cases V<;>simp only[hsem]at f<;>try simp at f;done
  rename_i st;simp at f;obtain⟨rfl,rfl⟩:=f;obtain⟨K,hK⟩:∃K,K=(Question.appendCap st.size 0 e).cut (w.tape w.drawn<|.appendCap st.size 0 e):=⟨_,rfl⟩;have b0:st.size<=K:=XY
  have q0:(choose<|.appendCap st.size 0 e).run P w=.ok K { w with drawn:=w.drawn+1 }:=by
   rw[hK];simp[Question.forced]
  let arr:Array Value:=(st.data.map λb=>Value.int .u8 b.toNat)++Array.replicate (K-st.size) (.int .u8 0)
  have S0:st.data.size=st.size:=rfl;have T:arr.size=K:=by simp[arr];omega
  refine⟨arr,e,(arr.size,arr.size+1),st.data.toList.map λb=>Value.int .u8 b.toNat,.slice (some ⟨w.heap.size,0,none⟩) st.size K,w.drawn+1,?_,rfl,by rw[T];simp;omega,?_,(.inr<|Nat.le_refl _),?_,λS N=>by simp[hsem,N]⟩
  .apply B
   simp only[convert,Sem.run_bind,run_underlying w0,run_underlying x0,run_underlying y0,Result.andThen_ok,Conv.stringToBytes,q0];simp only[newRow,Sem.run_bind,run_newObj,Result.andThen_ok,Sem.run_pure,markStringish,run_shape];have g0:World.shape? ({ ({ w with drawn:=w.drawn+1 }:World)with heap:=w.heap.push (.cells arr e) }) w.heap.size=some (e,arr.size):=by
    simp[World.shape?]
   simp only[arr]at g0;rw[g0];simp only[run_freeze];have c0:=te ({ w with drawn:=w.drawn+1 }) arr e;simp only[arr]at c0 ⊢;rw[<-c0];rfl
  .intro j v hv
   simp only[az₀,aa₀]at hv;obtain⟨b,hb,rfl⟩:=hv;have r0:j<st.data.size:=by have:=(List.getElem?_eq_some_iff.1 hb).1;simpa using this
   refine⟨_,?_,.int _ _⟩;simp only[arr];rw[Array.getElem?_append_left (by simpa using r0)];simp at hb;simp[hb]
  .intro ψ q
   exact .sliceIn H.length 0 st.size st.size 1 _ 0 K (Map.of_some.2 ⟨q,rfl⟩) b0 (Nat.le_refl _) (.inl rfl) (by simp[T])
 case makeFunc fn o0 a0=>cases fn<;>simp at d
 case panic x=>simp at d;obtain⟨rfl,rfl⟩:=d;simp[HOp.isAlloc]at J
 case mapUpdate t m k x=>
  split at d<;>try simp at d;done
  split at d<;>try simp at d;done
  simp at d;obtain⟨rfl,rfl⟩:=d;simp[HOp.isAlloc]at J
 case makeMap t r=>
  cases r<;>simp only at d<;>try simp at d;done
  split at d<;>try simp at d;done
  simp at d;obtain⟨rfl,rfl⟩:=d;simp[HOp.isAlloc]at J
 case range t x=>
  split at d<;>try simp at d;done
  simp at d;obtain⟨rfl,rfl⟩:=d;simp[HOp.isAlloc]at J
 case next x s=>
  cases s<;>simp at d;obtain⟨rfl,rfl⟩:=d;simp[HOp.isAlloc]at J
 case typeAssert x xt t ok=>repeat' (first|(simp at d;done)|split at d)
 case call c=>
  obtain⟨M,args,argTypes⟩:=c;cases M
  .simp at d;obtain⟨rfl,rfl⟩:=d;simp[HOp.isAlloc]at J
  .simp at d
  next b=>
   cases b<;>simp only at d
   all_goals repeat' (first|(simp at d;done)|split at d|(simp only[aa₀]at d;obtain⟨_,_,d⟩:=d))
   all_goals first|(simp at d;obtain⟨rfl,rfl⟩:=d;simp[HOp.isAlloc]at J)|(obtain⟨_,_,d⟩:=d)|skip
   all_goals (simp only[ad₀,ROp.h.injEq]at d;obtain⟨rfl,rfl⟩:=d;simp[HOp.isAlloc]at J)
 case store t a x=>
  simp only[aa₀,ad₀,ROp.h.injEq]at d;obtain⟨n,hn,rfl,rfl⟩:=d;simp[HOp.isAlloc]at J
 all_goals first|(simp at d;done)|(repeat' (first|(simp at d;done)|split at d|(simp only[ae₀,aa₀]at d;obtain⟨_,_,d⟩:=d)))
end
section
variable {callA:dd}{lo:Nat}{H H':Heap}
def Same(lo:Nat)(H H':Heap):Prop:=H.length<=H'.length/\∀i,i<lo->i<H.length->H'.get i=H.get i
theorem Same.refl(lo:Nat)(H:Heap):Same lo H H:=⟨Nat.le_refl _,λ_ _ _=>rfl⟩
theorem Same.trans{c d:Heap}(a:Same lo H c)(b:Same lo c d):Same lo H d:=
 ⟨Nat.le_trans a.1 b.1,λi e f=>by rw[b.2 i e<|bd₀ f a.1,a.2 i e f]⟩
def db(callA:dd):Prop:=∀lo f args H v H',lo<=H.length->callA lo f args H=some (v,H')->Same lo H H'
def AF{i a:Nat}{vs:XV}(h:H.put lo i a vs=some H'):H'.length=H.length/\lo<=i/\∀j,j≠i->H'.get j=H.get j:=by grind[Heap.put,Heap.get_set,Heap.get_lt]
def iV{sz n:Nat}{s:Value}{new:XV}{v:Value}(h:aV lo sz s new n H=some (v,H')):H.length<=H'.length/\(∀j,j<H.length->aT s≠some j->H'.get j=H.get j)/\∀j,j<lo->j<H.length->H'.get j=H.get j:=by
 unfold aV at h;split at h
 next m len q=>
  split at h
  .split at h
   .simp at h;obtain⟨_,rfl⟩:=h;exact⟨Nat.le_refl _,λ_ _ _=>rfl,λ_ _ _=>rfl⟩
   next b o sp=>
    split at h
    .simp only[aa₀,ad₀]at h
     obtain⟨w,u,_,rfl⟩:=h;have⟨x,y,p⟩:=AF u;exact⟨byO,λj _ g=>p j λe=>g (by simp[aT,e]),λj a _=>p j byO⟩
    .grind
  .split at h
   .grind
   .split at h
    .split at h
     .simp at h;obtain⟨_,rfl⟩:=h
      exact⟨Wc,λj a _=>Heap.get_append_left a,λj _ a=>Heap.get_append_left a⟩
     .grind
    .simp[aa₀,ad₀]at h
     obtain⟨f,_,_,rfl⟩:=h;exact⟨Wc,λj a _=>Heap.get_append_left a,λj _ a=>Heap.get_append_left a⟩
    next b o z=>
     split at h
     next A=>
      simp[aa₀,ad₀]at h;obtain⟨f,t,_,rfl⟩:=h;have⟨c,k⟩:=Heap.cells_get t;have g:=Heap.get_lt k;have d:∀j,j<H.length->j≠b->Heap.get (H.set b none++[some<|f++new]) j=H.get j:=by
       intro j a l;rw[Heap.get_append_left (by simpa using a),Heap.get_set g];simp[l]
      exact⟨Wc,λj a i=>d j a λe=>i (by simp[aT,e]),λj a r=>d j r byO⟩
     .grind
 .grind
def rJ{h:HOp}{vs:XV}{v:Value}(y:h.isCall=false)(d:hsem callA lo h vs H=some (v,H')) :
  H.length<=H'.length/\(∀j,j<H.length->(∀x,vs.head?=some x->aT x≠some j)->H'.get j=H.get j)/\∀j,j<lo->j<H.length->H'.get j=H.get j:=by
 have new:∀c:Option XV,H'=H++[c]->H.length<=H'.length/\(∀j,j<H.length->(∀x,vs.head?=some x->aT x≠some j)->H'.get j=H.get j)/\∀j,j<lo->j<H.length->H'.get j=H.get j:=by
  rintro c rfl;exact⟨Wc,λj g _=>Heap.get_append_left g,λj _ g=>Heap.get_append_left g⟩
 have F:∀(a:Value) (r:XV) (i D:Nat) (ws:XV),vs=a::r->aT a=some i->H.put lo i D ws=some H' ->
   H.length<=H'.length/\(∀j,j<H.length->(∀x,vs.head?=some x->aT x≠some j)->H'.get j=H.get j)/\∀j,j<lo->j<H.length->H'.get j=H.get j:=by
  intro a r i D ws I G C;obtain⟨A,B,w⟩:=AF C;refine⟨byO,λj _ t=>w j λe=>?_,λj g _=>w j byO⟩;exact t a (by rw[I];rfl) (by rw[G,e])
 have u:∀(i:Nat) (a:Value) (r:XV) (c:XV) {c':XV},vs=a::r->aT a=some i->lo<=i->H.get i=some c->H'=H.set i (some c') ->
   H.length<=H'.length/\(∀j,j<H.length->(∀x,vs.head?=some x->aT x≠some j)->H'.get j=H.get j)/\∀j,j<lo->j<H.length->H'.get j=H.get j:=by
  rintro i a r c c' I G p y rfl;have K:=Heap.get_lt y;refine⟨Wc,λj _ t=>?_,λj g _=>?_⟩
  .rw[Heap.get_set K,if_neg]
   rintro rfl;exact t a (by rw[I];rfl) G
  .rw[Heap.get_set K,if_neg];omega
 cases h<;>simp[HOp.isCall]at y
 case alloc z=>cases vs<;>simp[hsem]at d;exact new _ d.2.symm
 case box=>rcases vs with _|⟨a,_|⟨b,r⟩⟩<;>simp[hsem]at d;exact new _ d.2.symm
 case mkSl z=>
  unfold hsem at d;split at d<;>try simp at d;done
  all_goals (rename_i M N O<;>try cases M)
  all_goals first|(split at d;(simp at d;exact new _ d.2.symm);(simp at d;done))|skip
  all_goals simp_all
 case bSl z l P=>
  simp[hsem,aa₀,ad₀]at d;obtain⟨c,_,_,rfl⟩:=d;exact new _ rfl
 case st n=>
  rcases vs with _|⟨a,_|⟨b,_|⟨c,r⟩⟩⟩<;>try simp[hsem]at d;done
  .cases a<;>try simp[hsem]at d;done
   rename_i f;rcases f with _|⟨i,o,sp⟩
   .simp[hsem]at d
   .cases sp
    .simp only[hsem]at d
     split at d
     .simp only[aa₀,ad₀]at d
      obtain⟨L,C,_,rfl⟩:=d;exact F _ _ i o _ rfl rfl C
     .simp at d
    .simp[hsem]at d
 case app sz z=>
  rcases vs with _|⟨a,_|⟨b,_|⟨c,r⟩⟩⟩<;>try simp[hsem]at d;done
  .cases b<;>try simp[hsem]at d;done
   rename_i f n k;cases f with
   | none=>
    simp only[hsem]at d;split at d
    .obtain⟨A,B,w⟩:=iV d
     exact⟨A,λj g t=>B j g<|t a rfl,w⟩
    .simp at d
   | some f=>
    simp only[hsem,ae₀]at d;obtain⟨new',_,d⟩:=d;split at d
    .obtain⟨A,B,w⟩:=iV d
     exact⟨A,λj g t=>B j g<|t a rfl,w⟩
    .simp at d
 case appS z=>
  rcases vs with _|⟨a,_|⟨b,_|⟨c,r⟩⟩⟩<;>try simp[hsem]at d;done
  .cases b<;>try simp[hsem]at d;done
   simp[hsem]at d;obtain⟨A,B,w⟩:=iV d;exact⟨A,λj g t=>B j g<|t a rfl,w⟩
 case appN sz z=>
  rcases vs with _|⟨a,_|⟨b,_|⟨c,r⟩⟩⟩<;>try simp[hsem]at d;done
  .cases b<;>try simp[hsem]at d;done
   simp only[hsem]at d;split at d<;>try simp at d;done
   obtain⟨A,B,w⟩:=iV d;exact⟨A,λj g t=>B j g<|t a rfl,w⟩
 case cpy sz=>
  rcases vs with _|⟨a,_|⟨b,_|⟨c,r⟩⟩⟩<;>try simp[hsem]at d;done
  .cases a<;>try simp[hsem]at d;done
   rename_i f n k;cases b<;>try cases f<;>simp[hsem]at d;done
   rename_i J m l;cases f with
   | none=>
    simp only[hsem]at d;split at d
    .simp at d;obtain⟨_,rfl⟩:=d;exact⟨Nat.le_refl _,λ_ _ _=>rfl,λ_ _ _=>rfl⟩
    .simp at d
   | some f=>
    cases J with
    | none=>
     simp only[hsem]at d;split at d
     .simp at d;obtain⟨_,rfl⟩:=d;exact⟨Nat.le_refl _,λ_ _ _=>rfl,λ_ _ _=>rfl⟩
     .simp at d
    | some J=>
     simp only[hsem,ae₀]at d;obtain⟨new',_,d⟩:=d;split at d
     .simp only[aa₀,ad₀]at d
      obtain⟨L,C,_,rfl⟩:=d;exact F _ _ f.block f.off _ rfl rfl C
     .simp at d
 case s2b=>
  rcases vs with _|⟨a,_|⟨b,r⟩⟩<;>try simp[hsem]at d;done
  .cases a<;>simp[hsem]at d
   exact new _ d.2.symm
 case fail=>simp[hsem]at d
 case pan=>simp[hsem]at d
 case mkMap=>
  simp only[hsem]at d;split at d<;>try simp at d;done
  simp[ab₀,ad₀]at d;exact new _ d.2.symm
 case mset Q agg=>
  simp only[hsem]at d;unfold lX at d;split at d<;>try simp at d;done
  split at d<;>try simp at d;done
  rename_i p;split at d<;>try simp at d;done
  rename_i c y;split at d<;>try simp at d;done
  split at d<;>try simp at d;done
  simp only[ab₀,ad₀]at d;exact u _ _ _ c rfl rfl p y d.2.symm
 case mclr=>
  simp only[hsem]at d;unfold lW at d;split at d<;>try simp at d;done
  .simp only[ab₀,ad₀]at d
   obtain⟨_,rfl⟩:=d;exact⟨Nat.le_refl _,λ_ _ _=>rfl,λ_ _ _=>rfl⟩
  .split at d<;>try simp at d;done
   rename_i p;split at d<;>try simp at d;done
   rename_i c y;simp only[ab₀,ad₀]at d;exact u _ _ _ c rfl rfl p y d.2.symm
 case sit=>
  rcases vs with _|⟨a,_|⟨b,r⟩⟩<;>try simp[hsem]at d;done
  .cases a<;>simp only[hsem]at d<;>try simp at d;done
   simp only[ab₀,ad₀]at d;exact new _ d.2.symm
 case snx=>
  simp only[hsem]at d;unfold oe at d;split at d<;>try simp at d;done
  split at d<;>try simp at d;done
  rename_i p;split at d<;>try simp at d;done
  rename_i s q y;split at d
  .simp only[ab₀,ad₀]at d
   exact u _ _ _ _ rfl rfl p y d.2.symm
  .simp only[ab₀,ad₀]at d
   obtain⟨_,rfl⟩:=d;exact⟨Nat.le_refl _,λ_ _ _=>rfl,λ_ _ _=>rfl⟩
 case frz=>
  rcases vs with _|⟨a,_|⟨b,r⟩⟩<;>try simp[hsem,lT]at d;done
  .cases a<;>try simp[hsem,lT]at d;done
   rename_i f n c;cases f<;>try simp[hsem,lT]at d;done
   rename_i f;obtain⟨b,o,sp⟩:=f;cases sp<;>simp only[hsem,lT]at d<;>try simp at d;done
   split at d
   .split at d
    .simp at d;obtain⟨_,rfl⟩:=d
     exact⟨Nat.le_refl _,λ_ _ _=>rfl,λ_ _ _=>rfl⟩
    .simp at d
   .simp at d
theorem wH(e:db callA)(g:lo<=H.length){h:HOp}{vs:XV}{v:Value}(c:hsem callA lo h vs H=some (v,H')):Same lo H H':=by
 cases l:h.isCall with
 | false=>have:=rJ l c;exact⟨this.1,this.2.2⟩
 | true=>
  cases h<;>simp[HOp.isCall]at l;rotate_left
  next k=>
   have b:=vS (show di callA lo k vs H=some (v,H') from c);cases m:vs.drop k with
   | nil=>rw[m]at b;simp[hsem]at b
   | cons a r=>
    rw[m]at b;cases a<;>try simp[hsem]at b;done
    rename_i fn d f
    cases fn<;>try simp[hsem]at b;done
    simp[hsem]at b;exact e _ _ _ _ _ _ g b
  rotate_right
  next j=>
   cases vs with
   | nil=>simp[hsem]at c
   | cons a r=>
    cases a<;>try simp[hsem]at c;done
    rename_i fn d f
    cases fn<;>try simp[hsem]at c;done
    simp[hsem]at c;have:=e _ _ _ _ _ _ (by split<;>omega) c;refine⟨this.1,λi o n=>this.2 i ?_ n⟩;split<;>omega
  .cases vs with
   | nil=>simp[hsem]at c
   | cons a r=>
    cases a<;>try simp[hsem]at c;done
    rename_i fn d f
    cases fn<;>try simp[hsem]at c;done
    simp[hsem]at c;exact e _ _ _ _ _ _ g c
theorem zw{a:CallR}(b:db a.pan)(c:lo<=H.length){h:HOp}{vs:XV}{v:Value}(d:ct a lo h vs H=some (v,H')):Same lo H H':=by
 unfold ct at d;split at d
 .exact b _ _ _ _ _ _ c d
 all_goals grind[Same.refl]
theorem bL{callA:CallR}(f:db callA.ret)(g:db callA.pan){n:Nat}:∀(st:Stm) (S:XV) (H:Heap),lo<=H.length->∀p k H',exec callA lo n st S H=some (p,k,H')->Same lo H H'
 | .skip,S,H,_,p,k,H',h=>by grind[exec,Same.refl]
 | .sets l A,S,H,_,p,k,H',h=>by
  grind[exec,Same.refl]
 | .hv l A J dst o a,S,H,d,p,k,H',h=>by
  simp[exec]at h
  grind[wH,zw,Same.refl]
 | .dist a b,S,H,_,p,k,H',h=>by
  grind[exec,Same.refl]
 | .seq a b,S,H,d,p,k,H',h=>by
  simp[exec]at h;split at h
  next u q y=>
   have t:=bL f g a S H d _ _ _ y;exact t.trans<|bL f g b u q (Nat.le_trans d t.1) _ _ _ h
  .exact bL f g a S H d _ _ _ h
 | .cond c a b,S,H,d,p,k,H',h=>by
  simp[exec]at h;split at h
  .exact bL f g a S H d _ _ _ h
  .exact bL f g b S H d _ _ _ h
  .grind
 | .block i b,S,H,d,p,k,H',h=>by
  simp[exec]at h;split at h
  next j u q y=>
   have t:=bL f g b S H d _ _ _ y
   grind
  .exact bL f g b S H d _ _ _ h
 | .loop b,S,H,d,p,k,H',h=>by
  simp[exec]at h;have z:∀(m:Nat) (S:XV) (H:Heap),lo<=H.length->iter (exec callA lo n b) m S H=some (p,k,H')->Same lo H H':=by
   intro m
   induction m with
   | zero=>grind[iter]
   | succ m C=>
    intro S H B h;simp[iter]at h;split at h
    next u q y=>
     have t:=bL f g b S H B _ _ _ y;exact t.trans<|C u q (Nat.le_trans B t.1) h
    .exact bL f g b S H B _ _ _ h
  grind
 | .exit i,S,H,_,p,k,H',h=>by grind[exec,Same.refl]
 | .ret,S,H,_,p,k,H',h=>by grind[exec,Same.refl]
 | .alt l s r,S,H,d,p,k,H',h=>by
  simp[exec]at h;split at h
  .split at h
   .exact bL f g s _ H d _ _ _ h
   .exact bL f g r _ H d _ _ _ h
  .grind
 | .scope b v,S,H,d,p,k,H',h=>by
  have z:∀(m:Nat) (o:Out),(∀w u q,o=some (w,u,q)->Same lo H q)->hop (exec callA lo n v) m o=some (p,k,H')->Same lo H H':=by
   intro m
   induction m with
   | zero=>
    intro o D h;cases o with
    | none=>grind[hop]
    | some x=>
     have⟨e,u,q⟩:=x;cases e with
     | exit j=>
      grind[hop]
     | normal=>grind[hop]
     | ret=>grind[hop]
   | succ m C=>
    intro o D h;cases o with
    | none=>grind[hop]
    | some x=>
     have⟨e,u,q⟩:=x;have t:=D _ _ _ rfl;cases e with
     | exit j=>
      simp[hop]at h;split at h
      .exact C _ (λw I G F=>t.trans<|bL f g v _ q (Nat.le_trans d t.1) _ _ _ F) h
      simp_all
     | normal=>grind[hop]
     | ret=>grind[hop]
  exact z n _ (λw u q t=>bL f g b S H d _ _ _ t) h
def qa{cp:Wl}{callA:CallR}(a:db callA.ret)(b:db callA.pan){n:Nat}{g:FuncId}{args:XV}{d:Value}(c:lo<=H.length){H':Heap}(h:jv cp callA lo n g args d H=some H'):Same lo H H':=by grind[jv,bL]
def FM{cp:Wl}{callA:CallR}(a:db callA.ret)(b:db callA.pan){n j:Nat}{l:List E}{k o rest:Stm}{w:XV}(c:lo<=H.length){r:Value ⊕ Value}{H':Heap}(h:iT cp callA lo n l k o j rest w H=some (r,H')):Same lo H H':=by
 have q:∀{S:XV} {m:Heap},oa l S m=some (r,H')->m=H':=by
  grind[oa]
 unfold iT at h;split at h
 .grind[bL]
 .grind[bL]
 next S m y=>
  have v:=bL a b _ _ _ c _ _ _ y;split at h<;>try (simp at h)
  rename_i B A x;have z:=bL a b _ _ _ (Nat.le_trans c v.1) _ _ _ x;have d:=v.trans z;split at h<;>try (simp at h)
  split at h
  next u s f=>
   have g:=d.trans<|bL a b _ _ _ (Nat.le_trans c d.1) _ _ _ f;split at h<;>try (simp at h)
   rename_i t e;rw[<-q h];exact g.trans<|qa a b (Nat.le_trans c g.1) e
  next u s f=>
   have g:=d.trans<|bL a b _ _ _ (Nat.le_trans c d.1) _ _ _ f;split at h<;>try (simp at h)
   rename_i t e;rw[<-q h];exact g.trans<|qa a b (Nat.le_trans c g.1) e
  next i p u s f=>
   have g:=d.trans<|bL a b _ _ _ (Nat.le_trans c d.1) _ _ _ f;split at h<;>try (simp at h)
   split at h<;>try (simp at h)
   rename_i t e;rw[<-q h];exact g.trans<|qa a b (Nat.le_trans c g.1) e
  .grind
 .grind
def zP{c:CallR}(h:∀lo f args H r H',lo<=H.length->c lo f args H=some (r,H')->Same lo H H'):db c.ret/\db c.pan:=
 ⟨λlo f args H v H' a e=>h lo f args H _ H' a<|yP e,λlo f args H v H' a e=>h lo f args H _ H' a<|uQ e⟩
def wi(cp:Wl):∀n lo f args H r H',lo<=H.length->run cp n lo f args H=some (r,H')->Same lo H H'
 | 0=>λlo f args H v H' _ h=>by simp[run]at h
 | n+1=>by
  intro lo f args H v H' a h;have b:=zP<|wi cp n;simp[run]at h;split at h
  .split at h
   .split at h
    .split at h
     next S d c=>
      split at h
      .simp at h;obtain⟨_,rfl⟩:=h;exact bL b.1 b.2 _ _ _ a _ _ _ c
      .grind
     next S d c=>
      split at h
      .simp at h;obtain⟨_,rfl⟩:=h;exact bL b.1 b.2 _ _ _ a _ _ _ c
      .grind
     next j q S d c=>
      split at h
      .simp at h;obtain⟨_,rfl⟩:=h;exact bL b.1 b.2 _ _ _ a _ _ _ c
      .grind
     .grind
    .exact FM b.1 b.2 a h
    .grind
    .split at h
     .simp at h;obtain⟨_,rfl⟩:=h;exact Same.refl _ _
     .grind
   .grind
  .grind
def AO(cp:Wl)(n:Nat):db (run cp n).ret:=(zP<|wi cp n).1
end
def Map.below(φ:Map)(k:Nat):Map:=λi=>if i<k then φ i else none
theorem Map.below_le(φ:Map)(k:Nat):(φ.below k).le φ:=by
 intro i p h
 grind[below]
def ClV(k:Nat)(v:Value):Prop:=∃(ψ:Map) (c:Value),(∀i q,ψ i=some q->i<k)/\VRel ψ v c
theorem ClV.mono{k l:Nat}(h:k<=l){v:Value}(c:ClV k v):ClV l v:=by have⟨ψ,c,a,b⟩:=c;exact⟨ψ,c,λi q d=>bd₀ (a i q d) h,b⟩
theorem Dr{ψ J:Map}{k:Nat}(Q:∀i q,ψ i=some q->i<k){v c:Value}(r:VRel ψ v c):∀c',VRel J v c'->VRel (J.below k) v c':=by
 have C:∀{j i:Nat} {q p:Place},ψ.of j i=some q->J.of j i=some p->(J.below k).of j i=some p:=λK G=>by
  have⟨K,_⟩:=Map.of_some.1 K;have⟨G,W⟩:=Map.of_some.1 G;exact Map.of_some.2 ⟨by simp[Map.below,Q _ _ K,G],W⟩
 induction r with
 | bool b=>intro c' h;cases h;exact .bool _
 | int k n=>intro c' h;cases h;exact .int _ _
 | float k n=>intro c' h;cases h;exact .float _ _
 | string s=>intro c' h;cases h;exact .string _
 | nilPtr=>intro c' h;cases h;exact .nilPtr
 | ptr i o p e=>intro c' h;cases h;rename_i u d;exact .ptr i o u<|C e d
 | nilSlice l c=>intro c' h;cases h;exact .nilSlice _ _
 | slice i o l c p e=>intro c' h;cases h;rename_i u d;exact .slice i o l c u<|C e d
 | sliceIn i o l c z p o' V e hc hl ho hn=>intro c' h;cases h;(· rename_i u R F d M N P O;exact .sliceIn i o l c z u R F (C e Xf) Xf Xf Xf Xf);(· rename_i u B d;exact .empty i o z u B<|C e d)
 | empty i o z p a e=>intro c' h;cases h;(· rename_i u R F d M N P O;exact .sliceIn i o 0 0 z u R F (C e Xf) Xf Xf Xf Xf);(· rename_i u B d;exact .empty i o z u B<|C e d)
 | nilMap=>intro c' h;cases h;exact .nilMap
 | map i p e=>intro c' h;cases h;rename_i u d;exact .map i u<|C e d
 | iter i z p e=>intro c' h;cases h;rename_i u d;exact .iter i z u<|C e d
 | func f a b a' T H X _ _ I Y=>
  intro c' h;cases h;rename_i B U w A L S;refine .func f a b B U w L (λj x y m D=>?_) λj x y m D=>?_
  .have g:j<a'.size:=by rw[<-H];exact(Array.getElem?_eq_some_iff.1 m).1
   exact I j x _ m (Array.getElem?_eq_getElem g) y<|A j x y m D
  .have g:j<T.size:=by rw[<-X];exact(Array.getElem?_eq_some_iff.1 m).1
   exact Y j x _ m (Array.getElem?_eq_getElem g) y<|S j x y m D
 | nilFunc=>intro c' h;cases h;exact .nilFunc
 | iface t v v' _ Z=>intro c' h;cases h;rename_i F G;exact .iface t v F<|Z F G
 | nilIface=>intro c' h;cases h;exact .nilIface
 | agg a a' H _ I=>
  intro c' h;cases h;rename_i B w A;refine .agg a B w λj x y m D=>?_;have g:j<a'.size:=by rw[<-H];exact(Array.getElem?_eq_some_iff.1 m).1
  exact I j x _ m (Array.getElem?_eq_getElem g) y<|A j x y m D
 | tuple a a' H _ I=>
  intro c' h;cases h;rename_i B w A;refine .tuple a B w λj x y m D=>?_;have g:j<a'.size:=by rw[<-H];exact(Array.getElem?_eq_some_iff.1 m).1
  exact I j x _ m (Array.getElem?_eq_getElem g) y<|A j x y m D
theorem ClV.below{k:Nat}{v c:Value}{a:Map}(h:ClV k v)(r:VRel a v c):VRel (a.below k) v c:=by
 have⟨ψ,b,d,e⟩:=h
 grind[Dr]
section
variable {ds:List Deferred}{P:Program}{callA:dd}{base lo nt:Nat}{ops:List Oper}
noncomputable def nC(P:Program)(callA:dd)(lo:Nat)(raised:dG)(o:Oper)(T:Raw)(H:Heap):Option<|Value×Heap:=
 match rsv P raised o with
 | (.l l,xs)=>(aG l (xs.map<|ah T) H).map λv=>(v,H)
 | (.h h,xs)=>hsem callA lo h (xs.map<|ah T) H
theorem wg{k:dG}{o:Oper}{l:LOp}{xs:List Operand}(h:resolve P o.op=(.l l,xs)):rsv P k o=(.l l,xs):=by unfold rsv;rw[h];rfl
theorem we{k:dG}{o:Oper}{h:HOp}{xs:List Operand}(e:resolve P o.op=(.h h,xs))(a:h.isAlloc=true):rsv P k o=(.h h,xs):=by unfold rsv;rw[e];cases h<;>first|rfl|simp[HOp.isAlloc]at a
def AT{raised:dG}{o:Oper}{T:Raw}{H:Heap}{r:Value×Heap}(h:nC P callA lo raised o T H=some r) :
  (match resolve P o.op with
   | (.l l,xs)=>(aG l (xs.map<|ah T) H).map λv=>(v,H)
   | (.h h,xs)=>hsem callA lo h (xs.map<|ah T) H)=some r:=D1 h
def mw{raised:dG}{o:Oper}{T f:Raw}{H c:Heap}(h:bZ P callA lo ops raised o T H=some (f,c)) :
  ∃v,f=fZ T o.dst v/\((bY ops T o=true/\nC P callA lo raised o T H=some (v,c))\/(bY ops T o=false/\v=undef/\c=H)):=by
 unfold bZ at h;split at h
 next b=>
  unfold nC;cases a:rsv P raised o with
  | mk e xs=>
  rw[a]at h;cases e with
  | l l=>
   simp only at h ⊢;split at h
   next v d=>simp at h;obtain⟨rfl,rfl⟩:=h;exact⟨v,rfl,.inl ⟨b,Yb⟩⟩
   .grind
  | h i=>
   simp only at h ⊢;split at h
   next v g d=>simp at h;obtain⟨rfl,rfl⟩:=h;exact⟨v,rfl,.inl ⟨b,d⟩⟩
   .grind
 next b=>
  simp at h;obtain⟨rfl,rfl⟩:=h;exact⟨undef,rfl,.inr ⟨X6,rfl,rfl⟩⟩
def oN{raised:Nat->dG}:∀(l:XN) (T:Raw) (H:Heap) (d:Raw) (H':Heap),bg P callA lo ops raised l T H=some (d,H') ->
  ∃(b:Nat->Raw) (a:Nat->Heap),b 0=T/\a 0=H/\b l.length=d/\a l.length=H'/\∀m i,l[m]?=some i->∃o,ops[i]?=some o/\bZ P callA lo ops (raised i) o (b m) (a m)=some (b<|m+1,a<|m+1)
 | [],T,H,d,H',h=>by
  simp[bg]at h;obtain⟨rfl,rfl⟩:=h;exact⟨λ_=>T,λ_=>H,rfl,rfl,rfl,rfl,λm i c=>by simp at c⟩
 | i::l,T,H,d,H',h=>by
  simp[bg]at h;split at h
  next o r=>
   split at h
   next f e s=>
    have⟨b,a,g,k,n,p,q⟩:=oN l f e d H' h;refine⟨λm=>match m with|0=>T|m+1=>b m,λm=>match m with|0=>H|m+1=>a m,rfl,rfl,n,p,λm j c=>?_⟩;cases m with
    | zero=>simp at c;subst c;exact⟨o,r,by simp[g,k];exact s⟩
    | succ m=>simp at c;exact q m j c
   .grind
  .grind
def Fb{o:Oper}{a:Act}{w:World}{K:Act->World->Prop}(h:o.wp P a w K λ_ _ _=>False):∃a' w',K a' w':=by
 unfold Oper.wp at h;generalize (execOp a.eval o).run P w=r at h;cases r with
 | ok i w'=>
  cases i<;>simp[Oper.upon]at h
  case value v=>grind
  case skip=>grind
  case defer d=>grind
  case enter f args=>
   have⟨e,c,j,b,_⟩:=h [];cases e with
   | returned v=>grind
   | panicked ch=>exact b.elim
   | outgrown=>have⟨_,_,g⟩:=b;exact g.elim
  case row r args=>
   have⟨v,c,b,_⟩:=h default []
   grind
 | halt x w'=>cases x<;>simp[Oper.upon]at h
def Qx(d:gM P base P.globals.size callA)(s:base<=lo)(g:opsOK P nt ops=true){raised:Nat->dG}{l:XN}{k:Nat->Raw}{c:Nat->Heap}
  (u:∀m i,l[m]?=some i->∃o,ops[i]?=some o/\bZ P callA lo ops (raised i) o (k m) (c m)=some (k<|m+1,c<|m+1)) {φ:Map} {w:World} {a:Act} (t:lo<=(c 0).length)
  (G:Tmps ds φ nt (k 0) a) (F:HRel φ base P.globals.size (c 0) w):∀m,m<=l.length->∃b w' a',Tmps ds b nt (k m) a'/\HRel b base P.globals.size (c m) w'/\lo<=(c m).length/\φ.le b/\Heap.keeps φ (c 0) (c m):=by
 intro m
 induction m with
 | zero=>intro _;exact⟨φ,w,a,G,F,t,Map.le_refl φ,Heap.keeps_refl _⟩
 | succ m J=>
  intro L;have⟨j,C,D,p,z,q,r,A⟩:=J byO;have⟨o,H,I⟩:=u m _<|bc₀ byO;have⟨B,hop⟩:=gQ g o<|List.mem_of_getElem? H;have⟨v,y,h⟩:=mw I;rcases h with ⟨_,hsem⟩|⟨_,rfl,n⟩
  .have:=Ij (Q:=λ_ _ _=>False) (K:=λa' w'=>∃b f,a'=D.put o.dst f/\Eff j base P.globals.size lo (c m) C b (c<|m+1) w'/\VRel b v f) d s q p z hop hsem λf b w' e x=>⟨b,f,rfl,e,x⟩
   obtain⟨a',w',b,f,rfl,e,x⟩:=Fb this;exact⟨b,w',_,by rw[y];exact(p.mono e.le).put B x,e.rel,Nat.le_trans q e.keeps.1,Map.le_trans r e.le,Heap.keeps_trans r A e.keeps⟩
  .exact⟨j,C,_,by rw[y];exact p.put B fu,by rw[n];exact z,by rw[n];exact q,r,by rw[n];exact A⟩
def FR{φ:Map}{G:Nat}{w:World}{a:Act}{T:Raw}{H:Heap}(m:Tmps ds φ nt T a)(b:HRel φ base G H w):(∀t,ClV H.length<|T t)/\∀i c v,H.get i=some c->v ∈ c->ClV H.length v:=by
 refine⟨λt=>⟨φ,_,b.dom,m.rel t⟩,λi c v n h=>?_⟩;have⟨j,f⟩:=List.getElem?_of_mem h;obtain⟨p,x,⟨_,arr,ty,B,e,y,z,k,A⟩|⟨_,l,d,_,e⟩|⟨_,s,q,_,rfl⟩⟩:=b.cell i c n
 .have⟨u,_,r⟩:=k j v f
  exact⟨φ,u,b.dom,r⟩
 .have g:j<(iz l).length:=by rw[<-e.1];exact(List.getElem?_eq_some_iff.1 f).1
  exact⟨φ,_,b.dom,e.2 j v _ f<|bc₀ g⟩
 .have o:bU v=true:=by
   have:v=.string s\/v=.int .i64 (.ofNat q):=Wy
   rcases this with rfl|rfl<;>rfl
  exact⟨φ,v,b.dom,gS φ o⟩
def tw{o:Oper}(h:jB P o=0\/jB P o=1):∃l xs,resolve P o.op=(.l l,xs)/\(jB P o=1↔gG l=true):=by grind[jB]
theorem tv{o:Oper}(h:jB P o=2):∃b xs,an P o.op=some (.h b,xs)/\resolve P o.op=(.h b,xs)/\b.isAlloc=true:=by
 unfold jB at h;cases a:resolve P o.op with
 | mk c xs=>
 rw[a]at h;cases c with
 | l l=>simp only at h;split at h<;>simp at h
 | h b=>
  have e:b.isAlloc=true:=by cases b<;>simp at h<;>rfl
  refine⟨b,xs,?_,rfl,e⟩;unfold resolve at a;cases d:an P o.op with
  | none=>rw[d]at a;simp at a;obtain⟨rfl,rfl⟩:=a;simp[HOp.isAlloc]at e
  | some q=>rw[d]at a;simp at a;rw[a]
def Cr{o:Oper}:jB P o<=3:=by grind[jB]
set_option maxHeartbeats 4000000 in
theorem rL{l:LOp}(h:gG l=false)(vs:XV)(H g:Heap):aG l vs H=aG l vs g:=by
 cases l<;>simp[gG]at h
 case un j=>cases j<;>(rcases vs with _|⟨a,_|⟨b,r⟩⟩)<;>first|rfl|(cases a<;>rfl)
 all_goals (rcases vs with _|⟨a,_|⟨b,_|⟨c,_|⟨d,r⟩⟩⟩⟩)<;>first|rfl|(cases a<;>first|rfl|(rename_i f;cases f<;>first|rfl|(rename_i f;rcases f with ⟨i,o,_|z⟩<;>first|rfl|(cases b<;>rfl))|(cases b<;>rfl))|(rename_i f _ _;cases f<;>first|rfl|(rename_i f;rcases f with ⟨i,o,_|z⟩<;>first|rfl|(cases b<;>first|rfl|(rename_i e;cases e<;>rfl)|(rename_i e _ _;cases e<;>rfl)))|(cases b<;>first|rfl|(rename_i e;cases e<;>rfl)|(rename_i e _ _;cases e<;>rfl)))|(cases b<;>first|rfl|(rename_i e;cases e<;>rfl)|(rename_i e _ _;cases e<;>rfl))|(rename_i fn _ _;cases fn<;>rfl))
def wO{l:LOp}(h:gG l=true)(vs:XV)(H k:Heap){v:Value}(f:aG l vs H=some v)(q:∀x i,vs.head?=some x->aT x=some i->H.get i=k.get i):aG l vs k=some v:=by
 have p:∀i g n,H.get i=k.get i->k.cells i g n=H.cells i g n:=λi g n e=>by unfold Heap.cells;rw[e]
 cases l<;>simp[gG]at h
 case ld n agg=>
  rcases vs with _|⟨a,_|⟨b,r⟩⟩
  .simp[aG]at f
  .cases a<;>try simp[aG]at f;done
   rename_i j;rcases j with _|⟨i,o,sp⟩
   .simp[aG]at f
   .cases sp
    .have:=q _ i rfl rfl
     simp[aG]at f ⊢;rw[p _ _ _ this,p _ _ _ this];exact f
    .simp[aG]at f
  .cases a<;>simp[aG]at f
 case mget s agg z t=>
  rcases vs with _|⟨a,_|⟨b,_|⟨d,r⟩⟩⟩<;>try simp[aG]at f;done
  .cases a<;>try simp[aG]at f;done
   rename_i m;cases m with
   | none=>exact f
   | some i=>
    have:=q _ i rfl rfl;simp[aG]at f ⊢;rw[<-this];exact f
 case b2s=>
  rcases vs with _|⟨a,_|⟨b,r⟩⟩
  .simp[aG]at f
  .cases a<;>try simp[aG]at f;done
   rename_i j l c;cases j with
   | none=>exact f
   | some j=>
    have:=q _ j.block rfl rfl;simp[aG]at f ⊢;rw[p _ _ _ this];exact f
  .cases a<;>simp[aG]at f
end
section
variable {ds:List Deferred}{P:Program}{callA:dd}{base lo nt:Nat}{ops:List Oper}{Ts:Nat->Raw}{Hs:Nat->Heap}{φ0:Map}
def ord(P:Program)(ops:List Oper):XN:=du P ops true
def ps(P:Program)(ops:List Oper)(i:Nat):Nat:=posOf (ord P ops) i
def bf(ops:List Oper)(i:Nat):XN:=bOf (beforeL ops) i
def kd(P:Program)(ops:List Oper)(i:Nat):Nat:=((eh P ops)[i]?).getD 0
structure DC (P:Program)(callA:dd)(base lo nt:Nat)(ops:List Oper)(Ts:Nat->Raw)(Hs:Nat->Heap)(φ0:Map):Prop where
 pos:∀i,i<ops.length->ps P ops i<ops.length/\(ord P ops)[ps P ops i]?=some i
 inv:∀m i,(ord P ops)[m]?=some i->i<ops.length/\ps P ops i=m
 step:∀i o,ops[i]?=some o->∃v,Ts (ps P ops i+1)=fZ (Ts<|ps P ops i) o.dst v /\
  ((bY ops (Ts<|ps P ops i) o=true/\nC P callA lo (bq P ops true i) o (Ts<|ps P ops i) (Hs<|ps P ops i)=some (v,Hs<|ps P ops i+1)) \/
   (bY ops (Ts<|ps P ops i) o=false/\v=undef/\Hs (ps P ops i+1)=Hs (ps P ops i)))
 cl:∀m,m<=ops.length->lo<=(Hs m).length/\(∀t,ClV (Hs m).length<|Ts m t)/\∀i c v,(Hs m).get i=some c->v ∈ c->ClV (Hs m).length v
 keeps:∀m,m<=ops.length->∀id c,id<(Hs 0).length->(∃q,φ0 id=some q)->(Hs m).get id=some c->∃d,(Hs 0).get id=some d
 same:∀i o,ops[i]?=some o->Same lo (Hs<|ps P ops i) (Hs<|ps P ops i+1)
 opsOK:∀o ∈ ops,(∀d,o.dst=some d->d<nt)/\∀x ∈ (resolve P o.op).2,kv P.globals.size x=true
 cover:∀i o,ops[i]?=some o->∀j ∈ bf ops i,∃e ∈ o.after.toList,Region.binds .any e=true/\(e.on=j\/j ∈ bf ops e.on)
 bpos:∀i,i<ops.length->∀j ∈ bf ops i,ps P ops j<ps P ops i
 guard:∀i o j want,ops[i]?=some o->o.guard=some (j,want)->j ∈ bf ops i
 tmp:∀i j o q,i≠j->ops[i]?=some o->ops[j]?=some q->¬ (i ∈ bf ops j\/j ∈ bf ops i)->∀d,o.dst=some d->q.dst≠some d/\d ∉ sK P ops q
 mov:∀i j,i<ops.length->j<ops.length->i≠j->kd P ops i=3->¬ (i ∈ bf ops j\/j ∈ bf ops i)->kd P ops j≠3/\(kd P ops j=2->ps P ops i<ps P ops j) /\
  (kd P ops j=1->ps P ops j<ps P ops i/\∀id,id<(Hs<|ps P ops i).length->(∀x,(bH P ops j)=some x->aT (ah (Ts<|ps P ops j) x)=some id)->(Hs<|ps P ops i+1).get id=(Hs<|ps P ops i).get id)
theorem DC.kd_at(_:DC P callA base lo nt ops Ts Hs φ0){i:Nat}{o:Oper}(a:ops[i]?=some o):kd P ops i=jB P o:=by simp[kd,eh,a]
theorem DC.at_pos(D:DC P callA base lo nt ops Ts Hs φ0){m:Nat}(b:m<ops.length)(c:(ord P ops).length=ops.length):∃i,i<ops.length/\ps P ops i=m:=by have a:(ord P ops)[m]?=some (ord P ops)[m]:=bc₀ byO;exact⟨_,D.inv m _ a⟩
theorem DC.keepT(D:DC P callA base lo nt ops Ts Hs φ0)(p:(ord P ops).length=ops.length){t:Nat}:∀k m,m+k<=ops.length->(∀j o,ops[j]?=some o->o.dst=some t->m<=ps P ops j->m+k<=ps P ops j)->Ts (m+k) t=Ts m t:=by
 intro k
 induction k with
 | zero=>intro m _ _;rfl
 | succ k r=>
  intro m s h;have⟨i,l,q⟩:=D.at_pos (m:=m+k) byO p;have g:ops[i]?=some ops[i]:=bc₀ l;have⟨v,f,_⟩:=D.step i _ g;rw[q]at f;rw[<-Nat.add_assoc,f];have c:ops[i].dst≠some t:=λe=>by have:=h i _ g e byO;omega
  have:fZ (Ts<|m+k) ops[i].dst v t=Ts (m+k) t:=by
   cases a:ops[i].dst with
   | none=>rfl
   | some d=>
    simp only[fZ];split
    next e=>subst e;exact absurd a c
    .rfl
  rw[this];exact r m byO (λj o n a b=>by have:=h j o n a b;omega)
theorem DC.level(D:DC P callA base lo nt ops Ts Hs φ0)(Q:(ord P ops).length=ops.length)(p:Nat):∀k,p+k<=ops.length->(∀i,i<ops.length->kd P ops i=3->p<=ps P ops i->p+k<=ps P ops i) ->
  (Hs p).length<=(Hs<|p+k).length/\(∀id,id<(Hs p).length->(Hs<|p+k).get id=(Hs p).get id) /\
  ∀id,(Hs p).length<=id->id<(Hs<|p+k).length->∃i o,ops[i]?=some o/\kd P ops i=2/\p<=ps P ops i/\ps P ops i<p+k/\bY ops (Ts<|ps P ops i) o=true/\id=(Hs<|ps P ops i).length/\(Hs<|p+k).get id=(Hs<|ps P ops i+1).get id:=by
 intro k
 induction k with
 | zero=>intro _ _;exact⟨Nat.le_refl _,λ_ _=>rfl,λid L t=>absurd t (by rw[Nat.add_zero];omega)⟩
 | succ k T=>
  intro X N;have⟨L,t,M⟩:=T byO (λi u z C=>by have:=N i u z C;omega);have⟨i,u,w⟩:=D.at_pos (m:=p+k) byO Q;have s:ops[i]?=some ops[i]:=bc₀ u;have B:kd P ops i≠3:=λe=>by have:=N i u e byO;omega
  have⟨v,_,O⟩:=D.step i _ s;rw[w]at O;have g:Hs (p+k+1)=Hs (p+k)->_:=λe=>show(Hs p).length<=(Hs<|p+(k+1)).length/\(∀id,id<(Hs p).length->(Hs<|p+(k+1)).get id=(Hs p).get id) /\
    ∀id,(Hs p).length<=id->id<(Hs<|p+(k+1)).length->∃i o,ops[i]?=some o/\kd P ops i=2/\p<=ps P ops i/\ps P ops i<p+(k+1)/\bY ops (Ts<|ps P ops i) o=true/\id=(Hs<|ps P ops i).length/\(Hs<|p+(k+1)).get id=(Hs<|ps P ops i+1).get id by
   rw[<-Nat.add_assoc,e];exact⟨L,t,λid a b=>by have⟨i,o,F,G,H,U,I⟩:=M id a b;exact⟨i,o,F,G,H,byO,I⟩⟩
  rcases O with ⟨R,d⟩|⟨_,_,e⟩
  .by_cases n:kd P ops i=2
   .rw[D.kd_at s]at n
    have⟨y,xs,Y,J,K⟩:=tv n;unfold nC at d;rw[we J K]at d;simp only at d;have q:∃c,Hs (p+k+1)=Hs (p+k)++[some c]:=by
     have x:y.isCall=false:=by cases y<;>first|rfl|simp[HOp.isAlloc]at K
     cases y<;>simp[HOp.isAlloc]at K
     .cases f:xs.map<|ah<|Ts<|p+k<;>rw[f]at d<;>simp[hsem]at d
      exact⟨_,d.2.symm⟩
     .rcases f:xs.map (ah<|Ts<|p+k)with _|⟨a,_|⟨b,r⟩⟩<;>rw[f]at d<;>simp[hsem]at d
      exact⟨_,d.2.symm⟩
     .unfold Abs.hsem at d
      split at d<;>try simp at d;done
      all_goals first|(split at d;(simp at d;exact⟨_,d.2.symm⟩);(simp at d;done))|simp_all
     .simp[Abs.hsem,aa₀,ad₀]at d
      have⟨l,_,_,h⟩:=d;exact⟨_,h.symm⟩
     .rcases f:xs.map (ah<|Ts<|p+k)with _|⟨a,_|⟨b,r⟩⟩<;>rw[f]at d<;>try simp[Abs.hsem]at d;done
      .cases a<;>simp[Abs.hsem]at d
       exact⟨_,d.2.symm⟩
    have⟨c,x⟩:=q;rw[<-Nat.add_assoc,x];refine⟨Wr,λid j=>by rw[Heap.get_append_left byO];exact t id j,λid a b=>?_⟩;by_cases j:id<(Hs<|p+k).length
    .have⟨S,o',F,G,H,U,I,V,W⟩:=M id a j
     exact⟨S,o',F,G,H,byO,I,V,by rw[Heap.get_append_left j];exact W⟩
    .have:id=(Hs<|p+k).length:=by simp at b;omega
     exact⟨i,_,s,by rw[D.kd_at s];exact n,byO,byO,by rw[w];exact R,by rw[w];exact this,by rw[w,x]⟩
   .have A:jB P ops[i]=0\/jB P ops[i]=1:=by
     have:=Cr (P:=P) (o:=ops[i]);rw[D.kd_at s]at n B;omega
    have⟨l,xs,J,_⟩:=tw A;unfold nC at d;rw[wg J]at d;simp[aa₀,ad₀]at d;have⟨_,_,_,e⟩:=d;exact g e.symm
  .exact g e
structure JD (ds:List Deferred)(P:Program)(base lo nt:Nat)(ops:List Oper)(Ts:Nat->Raw)(Hs:Nat->Heap)(φ0:Map)(w0:World)(A:Nat->Prop)(a:Act)(w:World)(p:Nat)(ψ Φ:Map):Prop where
 down:∀i j,A i->i<ops.length->j ∈ bf ops i->A j
 ple:p<=ops.length
 mov:∀i,i<ops.length->kd P ops i=3->(A i↔ps P ops i<p)
 alc:∀i,i<ops.length->kd P ops i=2->ps P ops i<p->A i
 rel:HRel ψ base P.globals.size (Hs p) w
 le:ψ.le Φ
 plc:∀id q,Φ id=some q->q.b<w.heap.size
 dom:∀id q,Φ id=some q->ψ id=some q\/∃k o,ops[k]?=some o/\kd P ops k=2/\A k/\p<=ps P ops k/\bY ops (Ts<|ps P ops k) o=true/\id=(Hs<|ps P ops k).length
 al:∀k o,ops[k]?=some o->kd P ops k=2->A k->p<=ps P ops k->bY ops (Ts<|ps P ops k) o=true->∃q arr ty fr,Φ (Hs<|ps P ops k).length=some q/\(q.s=0/\q.k=0)/\w.heap[q.b]?=some (.cells arr ty fr)/\arr.size=q.n /\
  (∃c,(Hs<|ps P ops k+1).get (Hs<|ps P ops k).length=some c/\c.length<=q.n/\∀(j:Nat) v,c[j]?=some v->∃u,arr[j]?=some u/\VRel Φ v u)/\NoFrz arr.size fr /\
  ∀id q',Φ id=some q'->id≠(Hs<|ps P ops k).length->q'.b≠q.b
 tsz:a.tmps.size=nt
 tdef:a.defers=ds
 tmp:∀t m,m<=ops.length->(∀j o,ops[j]?=some o->o.dst=some t->(A j↔ps P ops j<m))->VRel Φ (Ts m t) (a.tmps.getD t undef)
 le0:φ0.le Φ
 size:w0.heap.size<=w.heap.size
 keep:∀b,b<w0.heap.size->(∀i c q,lo<=i->(Hs 0).get i=some c->φ0 i=some q->q.b≠b)->w.heap[b]?=w0.heap[b]?
 fresh:∀i q,φ0 i=none->Φ i=some q->w0.heap.size<=q.b\/∃j c q',lo<=j/\(Hs 0).get j=some c/\φ0 j=some q'/\q'.b=q.b
 os:w.os=w0.os
 out:w.output=w0.output
variable {w0:World}{A:Nat->Prop}{a:Act}{w:World}{p:Nat}{ψ Φ:Map}
theorem JD.at_level(D:DC P callA base lo nt ops Ts Hs φ0)(hn:(ord P ops).length=ops.length)(J:JD ds P base lo nt ops Ts Hs φ0 w0 A a w p ψ Φ){m:Nat}(c0:p<=m)(hm:m<=ops.length)
  (a0:∀i,i<ops.length->kd P ops i=3->p<=ps P ops i->m<=ps P ops i) (X:∀i,i<ops.length->kd P ops i=2->p<=ps P ops i->ps P ops i<m->A i):HRel (Φ.below (Hs m).length) base P.globals.size (Hs m) w:=by
 obtain⟨k,rfl⟩:∃k,m=p+k:=⟨m-p,byO⟩;have⟨h1,h2,h3⟩:=D.level hn p k hm a0;have b0:=(D.cl p J.ple).1;have y:∀id q,ψ id=some q->Φ.below (Hs<|p+k).length id=some q:=λid q b=>by
  have:=J.rel.dom id q b;have x:id<(Hs<|p+k).length:=byO;unfold Map.below;rw[if_pos x];exact J.le id q b
 have B:ψ.le<|Φ.below (Hs<|p+k).length:=y;have t:∀id c,(Hs p).length<=id->(Hs<|p+k).get id=some c->∃q arr ty C,Φ.below (Hs<|p+k).length id=some q/\(q.s=0/\q.k=0)/\w.heap[q.b]?=some (.cells arr ty C)/\arr.size=q.n/\c.length<=q.n /\
   (∀(j:Nat) v,c[j]?=some v->∃u,arr[j]?=some u/\VRel (Φ.below (Hs<|p+k).length) v u)/\NoFrz arr.size C/\∀I R,Φ I=some R->I≠id->R.b≠q.b:=by
  intro id c l f;have x:=Heap.get_lt f;have⟨i,o,q1,K,q3,q4,q5,q6,q7⟩:=h3 id l x;have O:i<ops.length:=(List.getElem?_eq_some_iff.1 q1).1;have⟨q,arr,ty,C,L,S,a3,a4,⟨c',T,a6,a7⟩,a8,a9⟩:=J.al i o q1 K (X i O K q3 q4) q3 q5;rw[<-q6]at L T a9;rw[q7,T]at f;cases f;refine⟨q,arr,ty,C,by unfold Map.below;rw[if_pos x];exact L,S,a3,a4,a6,λj v Q=>?_,a8,a9⟩;have⟨u,hu,F⟩:=a7 j v Q;have Y:=(D.cl (p+k) hm).2.2 id c v (by rw[q7,T])<|List.mem_of_getElem? Q;exact⟨u,hu,Y.below F⟩
 refine⟨?_,?_,?_,?_,?_⟩
 .intro id c f
  by_cases l:id<(Hs p).length
  .rw[h2 id l]at f
   have⟨q,d,V⟩:=J.rel.cell id c f;exact⟨q,y _ _ d,V.mono B λh=>h⟩
  .have⟨q,arr,ty,C,d,⟨V,ek⟩,e3,e4,e5,e6,e7,_⟩:=t id c byO f
   exact⟨q,d,.inl ⟨ek,arr,ty,C,e3,byO,e5,λj v Q=>by rw[V,Nat.zero_add];exact e6 j v Q,λ_=>e7⟩⟩
 .intro i j U M q r O Z b F hb N
  have z:∀id c q,id<(Hs p).length->(Hs<|p+k).get id=some c->Φ.below (Hs<|p+k).length id=some q->ψ id=some q/\(Hs p).get id=some c:=by
   intro id c q l f b;rw[h2 id l]at f;have⟨R,H⟩:=J.rel.place f;have:=y id R H;rw[b]at this;cases this;exact⟨H,f⟩
  by_cases h1:i<(Hs p).length<;>by_cases W:j<(Hs p).length
  .have⟨L,S⟩:=z i U q h1 O b
   have⟨b1,b2⟩:=z j M r W Z F;exact J.rel.inj i j U M q r S b2 L b1 hb N
  .have⟨K,_,_,_,d,_,_,_,_,_,_,G⟩:=t j M byO Z
   rw[F]at d;cases d;exact Decidable.byContradiction λs=>G i q (Map.below_le _ _ i q b) s N
  .have⟨K,_,_,_,d,_,_,_,_,_,_,G⟩:=t i U byO O
   rw[b]at d;cases d;exact Decidable.byContradiction λs=>G j r (Map.below_le _ _ j r F) (λe=>s e.symm) N.symm
  .have⟨K,_,_,_,d,_,_,_,_,_,_,G⟩:=t j M byO Z
   rw[F]at d;cases d;exact Decidable.byContradiction λs=>G i q (Map.below_le _ _ i q b) s N
 .intro i q b
  unfold Map.below at b;split at b
  .assumption
  .grind
 .intro g hg
  have⟨n,hn⟩:=J.rel.glob g hg;exact⟨n,y g _ hn⟩
 .intro i q b;exact J.plc i q<|Map.below_le _ _ i q b
theorem JD.operand(D:DC P callA base lo nt ops Ts Hs φ0)(J:JD ds P base lo nt ops Ts Hs φ0 w0 A a w p ψ Φ){i:Nat}{o:Oper}(l:ops[i]?=some o)(f:∀j ∈ bf ops i,A j)(e:¬ A i){t:Nat}(s:t ∈ sK P ops o) :
  VRel Φ (Ts (ps P ops i) t)<|a.tmps.getD t undef:=by
 have g:i<ops.length:=(List.getElem?_eq_some_iff.1 l).1;refine J.tmp t (ps P ops i) (Nat.le_of_lt (D.pos i g).1) λj q k n=>?_;have d:j<ops.length:=(List.getElem?_eq_some_iff.1 k).1;by_cases c:j=i
 .subst c
  exact⟨λh=>absurd h e,λh=>absurd h<|Nat.lt_irrefl _⟩
 .by_cases b:j ∈ bf ops i\/i ∈ bf ops j
  .rcases b with h|h
   .exact⟨λ_=>D.bpos i g j h,λ_=>f j h⟩
   .exact⟨λm=>absurd (J.down j i m d h) e,λr=>absurd (D.bpos j d i h) byO⟩
  .exfalso
   exact(D.tmp j i q o c k l b t n).2 s
theorem JD.evalOpd(D:DC P callA base lo nt ops Ts Hs φ0)(J:JD ds P base lo nt ops Ts Hs φ0 w0 A a w p ψ Φ){i:Nat}{o:Oper}(e:ops[i]?=some o)(c:∀j ∈ bf ops i,A j)(d:¬ A i) :
  ∀x ∈ (resolve P o.op).2,VRel Φ (ah (Ts<|ps P ops i) x)<|a.eval x:=by
 intro x b;have hop:=(D.opsOK o<|List.mem_of_getElem? e).2 x b;cases x with
 | tmp t=>
  refine J.operand D e c d<|List.mem_append_left _ ?_;exact List.mem_filterMap.2 ⟨.tmp t,b,rfl⟩
 | const v=>exact(iS Φ (by simpa[kv,mq]using hop):VRel Φ v v)
 | global g=>
  have⟨n,h⟩:=J.rel.glob g (by simpa[kv,mq]using hop);exact .ptr g 0 _<|Map.of_some.2 ⟨J.le g _ h,rfl⟩
 | func f=>exact .func f #[] #[] #[] #[] rfl rfl (λj x y b=>by simp at b) (λj x y b=>by simp at b)
theorem JD.want(D:DC P callA base lo nt ops Ts Hs φ0)(J:JD ds P base lo nt ops Ts Hs φ0 w0 A a w p ψ Φ){i:Nat}{o:Oper}(l:ops[i]?=some o)(b:∀j ∈ bf ops i,A j)(d:¬ A i) :
  Region.wanted o (yielded ops.toArray a.tmps)=bY ops (Ts<|ps P ops i) o:=by
 unfold Region.wanted bY;cases h:o.guard with
 | none=>rfl
 | some q=>
  have⟨j,f⟩:=q;simp[yielded,aj₀];cases k:ops[j]? with
  | none=>rfl
  | some m=>
   simp[ao₀];cases g:m.dst with
   | none=>rfl
   | some t=>
    simp[ao₀,xI];have:=J.operand D l b d (t:=t)<|List.mem_append_right _ (by simp[h,k,g]);rw[at₀]at this;cases e:a.tmps[t]? with
    | none=>
     rw[e]at this;simp[Option.getD_none]at this;generalize Ts (ps P ops i) t=v at this;unfold undef at this;cases this<;>rfl
    | some c=>
     rw[e]at this;simp[aq₀]at this;generalize Ts (ps P ops i) t=v at this ⊢;cases this<;>simp
theorem JD.put(D:DC P callA base lo nt ops Ts Hs φ0)(Q:(ord P ops).length=ops.length)(J:JD ds P base lo nt ops Ts Hs φ0 w0 A a w p ψ Φ){i:Nat}{o:Oper}(u:ops[i]?=some o)(F:¬ A i){r:Map}(C:Φ.le r){v c:Value}
  (S:Ts (ps P ops i+1)=fZ (Ts<|ps P ops i) o.dst v) (R:VRel r v c) :
  (a.put o.dst c).tmps.size=nt/\(a.put o.dst c).defers=ds/\∀t m,m<=ops.length->(∀j q,ops[j]?=some q->q.dst=some t->((A j\/j=i)↔ps P ops j<m))->VRel r (Ts m t) ((a.put o.dst c).tmps.getD t undef):=by
 have M:i<ops.length:=(List.getElem?_eq_some_iff.1 u).1;have s:=(D.opsOK o<|List.mem_of_getElem? u).1;refine⟨by cases o.dst<;>simp[Act.put,J.tsz],by cases o.dst<;>simp[Act.put,J.tdef],λt m I b=>?_⟩;by_cases l:o.dst=some t
 .
  have N:ps P ops i<m:=(b i o u l).1<|.inr rfl;have K:Ts m t=v:=by
   obtain⟨k,rfl⟩:∃k,m=ps P ops i+1+k:=⟨m-(ps P ops i+1),byO⟩;rw[D.keepT Q (t:=t) k (ps P ops i+1) I ?_,S,l]
   .simp[fZ]
   .intro j q n x O
    refine Decidable.byContradiction λH=>?_;have B:j<ops.length:=(List.getElem?_eq_some_iff.1 n).1;have f:j≠i:=λe=>by subst e;omega
    have y:A j:=((b j q n x).2 byO).resolve_right f;by_cases g:i ∈ bf ops j\/j ∈ bf ops i
    .rcases g with h|h
     .exact F<|J.down j i y B h
     .have:=D.bpos i M j h;omega
    .exact(D.tmp i j o q (λe=>f e.symm) u n g t l).1 x
  have G:t<a.tmps.size:=by rw[J.tsz];exact s t l
  rw[K,l];simp[Act.put,G];exact R
 .have L:(a.put o.dst c).tmps.getD t undef=a.tmps.getD t undef:=by
   cases z:o.dst with
   | none=>rfl
   | some d=>
    have:d≠t:=λe=>l (by rw[z,e]);simp[Act.put,at₀,this]
  rw[L];refine(J.tmp t m I λj q n x=>?_).mono C;have:=b j q n x;have f:j≠i:=λe=>by subst e;rw[u]at n;cases n;exact l x
  simpa[f]using this
end
end Go.Abs
