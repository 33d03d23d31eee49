/- Lemmas. -/
import Derived.Test.YtmnlgdpdgjbfgaaGreatF4
set_option linter.all false
namespace Go.Abs
section
variable {P:Program}{callA:dq}{φ:Map}{lo:Nat}{H:Heap}{w:World}
def HOp.isAlloc:HOp->Bool
 | .alloc _ | .box | .mkSl _ | .bSl _ _ _ | .s2b=>true
 | _=>false
theorem Du{o:Oper}{h:HOp}{xs:List Operand}(hr:bJ P o.op=some (.h h,xs))(hk:h.isAlloc=true){ρa ρc:Operand->Value}(hρ:∀x ∈ xs,VRel φ (ρa x) (ρc x)){v:Value}{H':Heap}
  (hs:hsem callA lo h (xs.map ρa) H=some (v,H')) :
  ∃arr ty fz c cv dn,(execOp ρc o).run P w=.ok (.value cv) (({ w with drawn:=dn }:World).alloc (.cells arr ty fz))/\H'=H++[some c]/\c.length<=arr.size /\
   (∀(j:Nat) v,c[j]?=some v->∃u,arr[j]?=some u/\VRel φ v u)/\NoFrz arr.size fz /\
   (∀ψ:Map,ψ H.length=some ⟨w.heap.size,0,arr.size⟩->VRel ψ v cv)/\∀H2:Heap,H2.length=H.length->hsem callA lo h (xs.map ρa) H2=some (v,H2++[some c]):=by
 obtain⟨dst,op,type,pos,after,guard⟩:=o;have wrap:∀{s:Sem Value} {cv:Value} {w':World},s.run P w=.ok cv w'->(do pure (Next.value (<-s)):Sem Next).run P w=.ok (.value cv) w':=by
  intro s cv w' hrun;simp only[Sem.run_bind,hrun,Result.andThen_ok,Sem.run_pure]
 have same:({ w with drawn:=w.drawn }:World)=w:=rfl;cases op<;>simp only[bJ]at hr
 case alloc t=>
  simp only[aa₀,ad₀,ROp.h.injEq]at hr;obtain⟨z,hz,rfl,rfl⟩:=hr;obtain⟨i,zv,hi,hzv,hzz,hzl,hzp⟩:=ep hz;simp[hsem]at hs;obtain⟨rfl,rfl⟩:=hs;refine⟨zv.cells,t,(0,0),z,.pointer (some ⟨w.heap.size,0,none⟩),w.drawn,?_,rfl,by rw[<-hzz];simp,?_,(.inl rfl),fun ψ hψ=>by simpa using VRel.ptr H.length 0 _ hψ,fun H2 h2=>by simp[hsem,h2]⟩
  ·simp only[execOp]
   refine wrap ?_;simp only[Instr.alloc,Sem.run_bind,cL hi hzv,Result.andThen_ok,newVar,newRow,run_newObj,Sem.run_pure];rfl
  ·have:=(cT φ hzp).cellsOf
   rw[<-hzz]at this ⊢;simpa using this
 case box t x=>
  simp at hr;obtain⟨rfl,rfl⟩:=hr;have hx:=hρ x (by simp);simp[hsem]at hs;obtain⟨rfl,rfl⟩:=hs;refine⟨(ρc x).cells,t,(0,0),(ρa x).cells.toList,.pointer (some ⟨w.heap.size,0,none⟩),w.drawn,?_,rfl,by have:=hx.cells.1;simp at this;simp;omega,by simpa using hx.cells.cellsOf,(.inl rfl),fun ψ hψ=>by simpa using VRel.ptr H.length 0 _ hψ,fun H2 h2=>by simp[hsem,h2]⟩;simp only[execOp];refine wrap ?_;simp only[Instr.box,newVar,newRow,Sem.run_bind,run_newObj,Result.andThen_ok,Sem.run_pure];rfl
 case makeSlice t l c=>
  simp only[execOp];split at hr<;>try (simp at hr;done)
  rename_i e hu;simp only[ae₀]at hr;obtain⟨z,hz,hr⟩:=hr;split at hr<;>try (simp at hr;done)
  rename_i hpos;simp at hr;obtain⟨rfl,rfl⟩:=hr;have hl:=hρ l (by simp);have hc:=hρ c (by simp);simp only[ag₀,al₀]at hs ⊢;generalize ρa l=la at hl hs ⊢;generalize ρc l=lc at hl ⊢;generalize ρa c=ca at hc hs ⊢;generalize ρc c=cc at hc ⊢;cases hl<;>cases hc<;>simp only[hsem]at hs<;>try (simp at hs;done)
  rename_i k1 n1 k2 n2;split at hs<;>try (simp at hs;done)
  rename_i hb;simp at hs;obtain⟨rfl,rfl⟩:=hs;obtain⟨i,zv,hi,hzv,hzz,hzl,hzp⟩:=ep hz;have hzs:zv.cells.size=z.length:=by rw[<-hzz];simp
  have hisz:eW P e=some z.length:=by simp[eW,hi,hzl]
  refine⟨(bH z n2.toNat).toArray,e,(0,0),bH z n2.toNat,.slice (some ⟨w.heap.size,0,none⟩) n1.toNat n2.toNat,w.drawn,?_,rfl,by simp,(kN hzp _).cellsOf,(.inl rfl),fun ψ hψ=>by simpa using VRel.slice H.length 0 n1.toNat n2.toNat _ hψ,fun H2 h2=>by simp only[hsem];rw[if_pos hb,h2]⟩;refine wrap ?_;have hm:(br:Int)=4294967296:=rfl;have hby:i.bytes<=4096:=by simpa[kt,hi]using hpos.2
  have w1:IntKind.i64.wrap n1=n1:=IntWalk.i64_in _ byO;have w2:IntKind.i64.wrap n2=n2:=IntWalk.i64_in _ byO;have hti:∀w2:World,(typeInfo e).run P w2=.ok i w2:=fun w2=>by simp[typeInfo,hi]
  have hbound:(i.bytes:Int)*n2<=4096*4294967296:=Int.mul_le_mul byO byO byO byO;simp only[Instr.makeSlice,Sem.run_bind,run_underlying hu,Result.andThen_ok,asInt,asIntOf,Sem.run_pure,hti,w1,w2];rw[if_neg (by simp;omega)];simp only[Sem.run_bind,run_askRoom,Result.andThen_ok,aj hisz,Sem.run_ite,Sem.run_pure,cL hi hzv];by_cases h0:n2.toNat*z.length=0
  ·have hn0:n2.toNat=0:=by rcases Nat.mul_eq_zero.1 h0 with h|h<;>omega
   simp only[h0,if_true,Result.andThen_ok,newRow,Sem.run_bind,run_newObj,Sem.run_pure];rw[Bp];simp[hn0,bH,World.alloc_eq]
  ·simp only[h0,if_false,Result.andThen_ok,newRow,Sem.run_bind,run_newObj,Sem.run_pure]
   rw[pD zv.cells n2.toNat _ (by rw[hzs]) byO,hzz];rfl
 case buildSlice t len parts=>
  simp only[execOp];split at hr<;>try (simp at hr;done)
  rename_i e hu;simp only[ae₀]at hr;obtain⟨z,hz,hr⟩:=hr;split at hr<;>try (simp at hr;done)
  rename_i hpos;simp only[ab₀,ad₀,ROp.h.injEq]at hr;obtain⟨rfl,rfl⟩:=hr;simp only[hsem,aa₀,ad₀]at hs;obtain⟨l,hl,rfl,rfl⟩:=hs;obtain⟨i,zv,hi,hzv,hzz,hzl,hzp⟩:=ep hz;have hzs:zv.cells.size=z.length:=by rw[<-hzz];simp
  have hisz:eW P e=some z.length:=by simp[eW,hi,hzl]
  obtain⟨l',e1,e2⟩:=oL (fun i=>some (i*z.length,z.length)) _ (parts.toList.map (·.1)) _ _ _ _ l (by simp) (fun j a p ha hp=>by
    simp only[az₀,aa₀]at ha hp;obtain⟨x,hx,rfl⟩:=ha;obtain⟨y,⟨u,hu,rfl⟩,rfl⟩:=hp;rw[hx]at hu;cases hu;rfl) (LRel.map_left ρa ρc _ hρ) (kN hzp len) hl
  refine⟨l'.toArray,e,(0,0),l,.slice (some ⟨w.heap.size,0,none⟩) len len,w.drawn,?_,rfl,by simp[e2.1],e2.cellsOf,(.inl rfl),fun ψ hψ=>by simpa using VRel.slice H.length 0 len len _ hψ,fun H2 h2=>by simp only[hsem,hl,Option.map_some,h2]⟩;refine wrap ?_;have hparts:(parts.map fun(p:Nat×Operand)=>(p.1,ρc p.2)).toList=(parts.toList.map (·.1)).zip ((parts.toList.map (·.2)).map ρc):=by
   rw[Array.toList_map];exact pz parts.toList ρc
  simp only[Instr.buildSlice,Sem.run_bind,run_underlying hu,Result.andThen_ok,aj hisz];rw[if_neg byO];simp only[Sem.run_bind,Sem.run_ite,Sem.run_pure,cL hi hzv,Result.andThen_ok,hparts];by_cases h0:len*z.length=0
  ·have hn0:len=0:=by rcases Nat.mul_eq_zero.1 h0 with h|h<;>omega
   subst hn0;simp only[h0,if_true];have:(bH z 0).toArray=#[]:=rfl;rw[this]at e1;rw[Bp,e1];rfl
  ·simp only[h0,if_false]
   rw[pD zv.cells len _ (by rw[hzs]) byO,hzz,e1];rfl
 case convert src dst x=>
  split at hr<;>try (simp at hr;done)
  ·split at hr<;>simp at hr
  rotate_left
  ·split at hr<;>try (simp at hr;done)
   split at hr<;>try (simp at hr;done)
   simp at hr;obtain⟨rfl,rfl⟩:=hr;simp[HOp.isAlloc]at hk
  rename_i e hu1 hu2;split at hr<;>try (simp at hr;done)
  rename_i hu3;simp at hr;obtain⟨rfl,rfl⟩:=hr;have hx:=hρ x (by simp);simp only[ag₀,al₀]at hs ⊢;simp only[execOp];generalize ρa x=xa at hs hx ⊢;generalize ρc x=xc at hx ⊢;cases hx<;>simp only[hsem]at hs<;>try (simp at hs;done)
  rename_i st;simp at hs;obtain⟨rfl,rfl⟩:=hs;obtain⟨K,hK⟩:∃K,K=(Question.appendCap st.size 0 e).cut (w.tape w.drawn (.appendCap st.size 0 e)):=⟨_,rfl⟩;have hKge:st.size<=K:=by rw[hK];simp[Question.cut]
  have hch:(choose (.appendCap st.size 0 e)).run P w=.ok K { w with drawn:=w.drawn+1 }:=by
   rw[hK];simp[Question.forced]
  let arr:Array Value:=(st.data.map fun b=>Value.int .u8 b.toNat)++Array.replicate (K-st.size) (.int .u8 0)
  have hds:st.data.size=st.size:=rfl;have harr:arr.size=K:=by simp[arr];omega
  refine⟨arr,e,(arr.size,arr.size+1),st.data.toList.map (fun b=>Value.int .u8 b.toNat),.slice (some ⟨w.heap.size,0,none⟩) st.size K,w.drawn+1,?_,rfl,by rw[harr];simp;omega,?_,(.inr (Nat.le_refl _)),?_,fun H2 h2=>by simp[hsem,h2]⟩
  ·refine wrap ?_
   simp only[convert,Sem.run_bind,run_underlying hu1,run_underlying hu2,run_underlying hu3,Result.andThen_ok,Conv.stringToBytes,hch];simp only[newRow,Sem.run_bind,run_newObj,Result.andThen_ok,Sem.run_pure,markStringish,run_shape];have hsh:World.shape? ({ ({ w with drawn:=w.drawn+1 }:World)with heap:=w.heap.push (.cells arr e) }) w.heap.size=some (e,arr.size):=by
    simp[World.shape?]
   simp only[arr]at hsh;rw[hsh];simp only[run_freeze];have hfn:=rn ({ w with drawn:=w.drawn+1 }) arr e;simp only[arr]at hfn ⊢;rw[<-hfn];rfl
  ·intro j v hv
   simp only[az₀,aa₀]at hv;obtain⟨b,hb,rfl⟩:=hv;have hlt:j<st.data.size:=by have:=(List.getElem?_eq_some_iff.1 hb).1;simpa using this
   refine⟨_,?_,.int _ _⟩;simp only[arr];rw[Array.getElem?_append_left (by simpa using hlt)];simp at hb;simp[hb]
  ·intro ψ hψ
   exact .sliceIn H.length 0 st.size st.size 1 _ 0 K hψ hKge (Nat.le_refl _) (.inl rfl) (by simp[harr])
 case makeFunc fn first captured=>cases fn<;>simp at hr
 case panic x=>simp at hr;obtain⟨rfl,rfl⟩:=hr;simp[HOp.isAlloc]at hk
 case typeAssert x xt t ok=>repeat' (first|(simp at hr;done)|split at hr)
 case call c=>
  obtain⟨callee,args,argTypes⟩:=c;cases callee
  ·simp at hr;obtain⟨rfl,rfl⟩:=hr;simp[HOp.isAlloc]at hk
  ·simp at hr
  ·rename_i b
   cases b<;>simp only at hr
   all_goals repeat' (first|(simp at hr;done)|split at hr|(simp only[aa₀]at hr;obtain⟨_,_,hr⟩:=hr))
   all_goals first|(simp at hr;obtain⟨rfl,rfl⟩:=hr;simp[HOp.isAlloc]at hk)|(obtain⟨_,_,hr⟩:=hr)|skip
   all_goals (simp only[ad₀,ROp.h.injEq]at hr;obtain⟨rfl,rfl⟩:=hr;simp[HOp.isAlloc]at hk)
 case store t a x=>
  simp only[aa₀,ad₀,ROp.h.injEq]at hr;obtain⟨n,hn,rfl,rfl⟩:=hr;simp[HOp.isAlloc]at hk
 all_goals first|(simp at hr;done)|(repeat' (first|(simp at hr;done)|split at hr|(simp only[ae₀,aa₀]at hr;obtain⟨_,_,hr⟩:=hr)))
end
section
variable {callA:dq}{lo:Nat}{H H':Heap}
def Same(lo:Nat)(H H':Heap):Prop:=H.length<=H'.length/\∀i,i<lo->i<H.length->H'.get i=H.get i
theorem Same.refl(lo:Nat)(H:Heap):Same lo H H:=⟨Nat.le_refl _,fun _ _ _=>rfl⟩
theorem Same.trans{H1 H2:Heap}(a:Same lo H H1)(b:Same lo H1 H2):Same lo H H2:=
 ⟨Nat.le_trans a.1 b.1,fun i hi hl=>by rw[b.2 i hi (bd₀ hl a.1),a.2 i hi hl]⟩
def dK(callA:dq):Prop:=∀lo f args H v H',lo<=H.length->callA lo f args H=some (v,H')->Same lo H H'
theorem yj{i off:Nat}{vs:List Value}(h:H.put lo i off vs=some H'):H'.length=H.length/\lo<=i/\∀j,j≠i->H'.get j=H.get j:=by
 grind[Heap.put,Heap.get_set,Heap.get_lt]
theorem j9{sz n:Nat}{s:Value}{new:List Value}{v:Value}(h:aZ lo sz s new n H=some (v,H')):H.length<=H'.length/\(∀j,j<H.length->ae s≠some j->H'.get j=H.get j)/\∀j,j<lo->j<H.length->H'.get j=H.get j:=by
 unfold aZ at h;split at h
 ·rename_i base len cap
  split at h
  ·split at h
   ·simp at h;obtain⟨_,rfl⟩:=h;exact⟨Nat.le_refl _,fun _ _ _=>rfl,fun _ _ _=>rfl⟩
   ·rename_i b o sp
    split at h
    ·simp only[aa₀,ad₀]at h
     obtain⟨H1,hp,_,rfl⟩:=h;obtain⟨h1,h2,h3⟩:=yj hp;exact⟨byO,fun j _ hb=>h3 j (fun e=>hb (by simp[ae,e])),fun j hj _=>h3 j byO⟩
    ·simp at h
  ·split at h
   ·simp at h
   ·split at h
    ·split at h
     ·simp at h;obtain⟨_,rfl⟩:=h
      exact⟨by simp,fun j hj _=>Heap.get_append_left hj,fun j _ hj=>Heap.get_append_left hj⟩
     ·simp at h
    ·simp only[aa₀,ad₀]at h
     obtain⟨old,_,_,rfl⟩:=h;exact⟨by simp,fun j hj _=>Heap.get_append_left hj,fun j _ hj=>Heap.get_append_left hj⟩
    ·rename_i b o z
     split at h
     ·rename_i hc
      simp only[aa₀,ad₀]at h;obtain⟨old,ho,_,rfl⟩:=h;obtain⟨c,hcc⟩:=Heap.cells_get ho;have hb:=Heap.get_lt hcc;have key:∀j,j<H.length->j≠b->Heap.get (H.set b none++[some (old++new)]) j=H.get j:=by
       intro j hj hne;rw[Heap.get_append_left (by simpa using hj),Heap.get_set hb];simp[hne]
      exact⟨by simp,fun j hj hbl=>key j hj (fun e=>hbl (by simp[ae,e])),fun j hj hl=>key j hl byO⟩
     ·simp at h
 ·simp at h
theorem qI{h:HOp}{vs:List Value}{v:Value}(hc:h.isCall=false)(hs:hsem callA lo h vs H=some (v,H')) :
  H.length<=H'.length/\(∀j,j<H.length->(∀x,vs.head?=some x->ae x≠some j)->H'.get j=H.get j)/\∀j,j<lo->j<H.length->H'.get j=H.get j:=by
 have new:∀c:Option (List Value),H'=H++[c]->H.length<=H'.length/\(∀j,j<H.length->(∀x,vs.head?=some x->ae x≠some j)->H'.get j=H.get j)/\∀j,j<lo->j<H.length->H'.get j=H.get j:=by
  rintro c rfl;exact⟨by simp,fun j hj _=>Heap.get_append_left hj,fun j _ hj=>Heap.get_append_left hj⟩
 have put:∀(a:Value) (r:List Value) (i off:Nat) (ws:List Value),vs=a::r->ae a=some i->H.put lo i off ws=some H' ->
   H.length<=H'.length/\(∀j,j<H.length->(∀x,vs.head?=some x->ae x≠some j)->H'.get j=H.get j)/\∀j,j<lo->j<H.length->H'.get j=H.get j:=by
  intro a r i off ws hv hb hp;obtain⟨h1,h2,h3⟩:=yj hp;refine⟨byO,fun j _ hh=>h3 j (fun e=>?_),fun j hj _=>h3 j byO⟩;exact hh a (by rw[hv];rfl) (by rw[hb,e])
 cases h<;>simp[HOp.isCall]at hc
 case alloc z=>cases vs<;>simp[hsem]at hs;exact new _ hs.2.symm
 case box=>rcases vs with _|⟨a,_|⟨b,r⟩⟩<;>simp[hsem]at hs;exact new _ hs.2.symm
 case mkSl z=>
  unfold hsem at hs;split at hs<;>try (simp at hs;done)
  all_goals (rename_i e1 e2 e3<;>try cases e1)
  all_goals first|(split at hs;(simp at hs;exact new _ hs.2.symm);(simp at hs;done))|skip
  all_goals simp_all
 case bSl z l ix=>
  simp only[hsem,aa₀,ad₀]at hs;obtain⟨c,_,_,rfl⟩:=hs;exact new _ rfl
 case st n=>
  rcases vs with _|⟨a,_|⟨b,_|⟨c,r⟩⟩⟩<;>try (simp[hsem]at hs;done)
  ·cases a<;>try (simp[hsem]at hs;done)
   rename_i ad;rcases ad with _|⟨i,o,sp⟩
   ·simp[hsem]at hs
   ·cases sp
    ·simp only[hsem]at hs
     split at hs
     ·simp only[aa₀,ad₀]at hs
      obtain⟨H1,hp,_,rfl⟩:=hs;exact put _ _ i o _ rfl rfl hp
     ·simp at hs
    ·simp[hsem]at hs
 case app sz z=>
  rcases vs with _|⟨a,_|⟨b,_|⟨c,r⟩⟩⟩<;>try (simp[hsem]at hs;done)
  ·cases b<;>try (simp[hsem]at hs;done)
   rename_i ad n k;cases ad with
   | none=>
    simp only[hsem]at hs;split at hs
    ·obtain⟨h1,h2,h3⟩:=j9 hs
     exact⟨h1,fun j hj hh=>h2 j hj (hh a rfl),h3⟩
    ·simp at hs
   | some ad=>
    simp only[hsem,ae₀]at hs;obtain⟨new',_,hs⟩:=hs;split at hs
    ·obtain⟨h1,h2,h3⟩:=j9 hs
     exact⟨h1,fun j hj hh=>h2 j hj (hh a rfl),h3⟩
    ·simp at hs
 case appS z=>
  rcases vs with _|⟨a,_|⟨b,_|⟨c,r⟩⟩⟩<;>try (simp[hsem]at hs;done)
  ·cases b<;>try (simp[hsem]at hs;done)
   simp only[hsem]at hs;obtain⟨h1,h2,h3⟩:=j9 hs;exact⟨h1,fun j hj hh=>h2 j hj (hh a rfl),h3⟩
 case cpy sz=>
  rcases vs with _|⟨a,_|⟨b,_|⟨c,r⟩⟩⟩<;>try (simp[hsem]at hs;done)
  ·cases a<;>try (simp[hsem]at hs;done)
   rename_i ad n k;cases b<;>try (cases ad<;>simp[hsem]at hs;done)
   rename_i bd m l;cases ad with
   | none=>
    simp only[hsem]at hs;split at hs
    ·simp at hs;obtain⟨_,rfl⟩:=hs;exact⟨Nat.le_refl _,fun _ _ _=>rfl,fun _ _ _=>rfl⟩
    ·simp at hs
   | some ad=>
    cases bd with
    | none=>
     simp only[hsem]at hs;split at hs
     ·simp at hs;obtain⟨_,rfl⟩:=hs;exact⟨Nat.le_refl _,fun _ _ _=>rfl,fun _ _ _=>rfl⟩
     ·simp at hs
    | some bd=>
     simp only[hsem,ae₀]at hs;obtain⟨new',_,hs⟩:=hs;split at hs
     ·simp only[aa₀,ad₀]at hs
      obtain⟨H1,hp,_,rfl⟩:=hs;exact put _ _ ad.block ad.off _ rfl rfl hp
     ·simp at hs
 case s2b=>
  rcases vs with _|⟨a,_|⟨b,r⟩⟩<;>try (simp[hsem]at hs;done)
  ·cases a<;>simp[hsem]at hs
   exact new _ hs.2.symm
 case fail=>simp[hsem]at hs
 case pan=>simp[hsem]at hs
 case frz=>
  rcases vs with _|⟨a,_|⟨b,r⟩⟩<;>try (simp[hsem,k9]at hs;done)
  ·cases a<;>try (simp[hsem,k9]at hs;done)
   rename_i ad n c;cases ad<;>try (simp[hsem,k9]at hs;done)
   rename_i ad;obtain⟨b,o,sp⟩:=ad;cases sp<;>simp only[hsem,k9]at hs<;>try (simp at hs;done)
   split at hs
   ·split at hs
    ·simp at hs;obtain⟨_,rfl⟩:=hs
     exact⟨Nat.le_refl _,fun _ _ _=>rfl,fun _ _ _=>rfl⟩
    ·simp at hs
   ·simp at hs
theorem uP(hcf:dK callA)(hlo:lo<=H.length){h:HOp}{vs:List Value}{v:Value}(hs:hsem callA lo h vs H=some (v,H')):Same lo H H':=by
 cases hc:h.isCall with
 | false=>have:=qI hc hs;exact⟨this.1,this.2.2⟩
 | true=>
  cases h<;>simp[HOp.isCall]at hc
  ·cases vs with
   | nil=>grind[hsem]
   | cons a r=>
    cases a<;>try (simp[hsem]at hs)
    rename_i fn first cap
    cases fn<;>try (simp[hsem]at hs)
    have:=hcf _ _ _ _ _ _ (by grind) hs;refine⟨this.1,fun i hi hl=>this.2 i ?_ hl⟩
    grind
  ·cases vs with
   | nil=>grind[hsem]
   | cons a r=>
    cases a<;>try (simp[hsem]at hs)
    rename_i fn first cap
    cases fn<;>try (simp[hsem]at hs)
    exact hcf _ _ _ _ _ _ hlo hs
theorem yZ{callR:CallR}(hcp:dK callR.pan)(hlo:lo<=H.length){h:HOp}{vs:List Value}{v:Value}(hs:cz callR lo h vs H=some (v,H')):Same lo H H':=by
 unfold cz at hs;split at hs
 ·exact hcp _ _ _ _ _ _ hlo hs
 all_goals grind[Same.refl]
theorem bK{callA:CallR}(hcf:dK callA.ret)(hcp:dK callA.pan){n:Nat}:∀(st:Stm) (S:List Value) (H:Heap),lo<=H.length->∀ex S' H',exec callA lo n st S H=some (ex,S',H')->Same lo H H'
 | .skip,S,H,_,ex,S',H',h=>by grind[exec,Same.refl]
 | .sets l chk,S,H,_,ex,S',H',h=>by
  grind[exec,Same.refl]
 | .hv l chk pc dst o a,S,H,hlo,ex,S',H',h=>by
  simp only[exec]at h
  grind[uP,yZ,Same.refl]
 | .dist a b,S,H,_,ex,S',H',h=>by
  grind[exec,Same.refl]
 | .seq a b,S,H,hlo,ex,S',H',h=>by
  simp only[exec]at h;split at h
  ·rename_i S1 H1 hs
   have h1:=bK hcf hcp a S H hlo _ _ _ hs;exact h1.trans (bK hcf hcp b S1 H1 (Nat.le_trans hlo h1.1) _ _ _ h)
  ·exact bK hcf hcp a S H hlo _ _ _ h
 | .cond c a b,S,H,hlo,ex,S',H',h=>by
  simp only[exec]at h;split at h
  ·exact bK hcf hcp a S H hlo _ _ _ h
  ·exact bK hcf hcp b S H hlo _ _ _ h
  ·simp at h
 | .block i b,S,H,hlo,ex,S',H',h=>by
  simp only[exec]at h;split at h
  ·rename_i j S1 H1 hs
   have h1:=bK hcf hcp b S H hlo _ _ _ hs
   grind
  ·exact bK hcf hcp b S H hlo _ _ _ h
 | .loop b,S,H,hlo,ex,S',H',h=>by
  simp only[exec]at h;have key:∀(m:Nat) (S:List Value) (H:Heap),lo<=H.length->iter (exec callA lo n b) m S H=some (ex,S',H')->Same lo H H':=by
   intro m
   induction m with
   | zero=>grind[iter]
   | succ m ih=>
    intro S H hl h;simp only[iter]at h;split at h
    ·rename_i S1 H1 hs
     have h1:=bK hcf hcp b S H hl _ _ _ hs;exact h1.trans (ih S1 H1 (Nat.le_trans hl h1.1) h)
    ·exact bK hcf hcp b S H hl _ _ _ h
  grind
 | .exit i,S,H,_,ex,S',H',h=>by grind[exec,Same.refl]
 | .ret,S,H,_,ex,S',H',h=>by grind[exec,Same.refl]
 | .alt l s r,S,H,hlo,ex,S',H',h=>by
  simp only[exec]at h;split at h
  ·split at h
   ·exact bK hcf hcp s _ H hlo _ _ _ h
   ·exact bK hcf hcp r _ H hlo _ _ _ h
  ·simp at h
 | .scope b alts,S,H,hlo,ex,S',H',h=>by
  have key:∀(m:Nat) (o:Out),(∀ex1 S1 H1,o=some (ex1,S1,H1)->Same lo H H1)->hop (exec callA lo n alts) m o=some (ex,S',H')->Same lo H H':=by
   intro m
   induction m with
   | zero=>
    intro o ho h;cases o with
    | none=>grind[hop]
    | some x=>
     obtain⟨e,S1,H1⟩:=x;cases e with
     | exit j=>
      grind[hop]
     | normal=>grind[hop]
     | ret=>grind[hop]
   | succ m ih=>
    intro o ho h;cases o with
    | none=>grind[hop]
    | some x=>
     obtain⟨e,S1,H1⟩:=x;have h1:=ho _ _ _ rfl;cases e with
     | exit j=>
      simp only[hop]at h;split at h
      ·exact ih _ (fun ex1 S2 H2 h2=>h1.trans (bK hcf hcp alts _ H1 (Nat.le_trans hlo h1.1) _ _ _ h2)) h
      simp_all
     | normal=>grind[hop]
     | ret=>grind[hop]
  exact key n _ (fun ex1 S1 H1 h1=>bK hcf hcp b S H hlo _ _ _ h1) h
theorem pd{cp:FuncId->Option CF}{callA:CallR}(hcf:dK callA.ret)(hcp:dK callA.pan){n:Nat}{g:FuncId}{args:List Value}{rv:Value}(hlo:lo<=H.length){H':Heap}(h:mg cp callA lo n g args rv H=some H'):Same lo H H':=by
 grind[mg,bK]
theorem D8{cp:FuncId->Option CF}{callA:CallR}(hcf:dK callA.ret)(hcp:dK callA.pan){n j:Nat}{res:List E}{body mid rest:Stm}{S0:List Value}(hlo:lo<=H.length){r:Value ⊕ Value}{H':Heap}(h:kp cp callA lo n res body mid j rest S0 H=some (r,H')):Same lo H H':=by
 have rs:∀{S:List Value} {H1:Heap},sf res S H1=some (r,H')->H1=H':=by
  grind[sf]
 unfold kp at h;split at h
 ·grind[bK]
 ·grind[bK]
 ·rename_i S H1 hx
  have s1:=bK hcf hcp _ _ _ hlo _ _ _ hx;split at h<;>try (simp at h)
  rename_i S1 H2 hm;have s2:=bK hcf hcp _ _ _ (Nat.le_trans hlo s1.1) _ _ _ hm;have s12:=s1.trans s2;split at h<;>try (simp at h)
  split at h
  ·rename_i S2 H3 hx3
   have s3:=s12.trans (bK hcf hcp _ _ _ (Nat.le_trans hlo s12.1) _ _ _ hx3);split at h<;>try (simp at h)
   rename_i H4 hrr;rw[<-rs h];exact s3.trans (pd hcf hcp (Nat.le_trans hlo s3.1) hrr)
  ·rename_i S2 H3 hx3
   have s3:=s12.trans (bK hcf hcp _ _ _ (Nat.le_trans hlo s12.1) _ _ _ hx3);split at h<;>try (simp at h)
   rename_i H4 hrr;rw[<-rs h];exact s3.trans (pd hcf hcp (Nat.le_trans hlo s3.1) hrr)
  ·rename_i i p S2 H3 hx3
   have s3:=s12.trans (bK hcf hcp _ _ _ (Nat.le_trans hlo s12.1) _ _ _ hx3);split at h<;>try (simp at h)
   split at h<;>try (simp at h)
   rename_i H4 hrr;rw[<-rs h];exact s3.trans (pd hcf hcp (Nat.le_trans hlo s3.1) hrr)
  ·simp at h
 ·simp at h
theorem xn{c:CallR}(h:∀lo f args H r H',lo<=H.length->c lo f args H=some (r,H')->Same lo H H'):dK c.ret/\dK c.pan:=
 ⟨fun lo f args H v H' hl e=>h lo f args H _ H' hl (nZ e),fun lo f args H v H' hl e=>h lo f args H _ H' hl (sU e)⟩
theorem uq(cp:FuncId->Option CF):∀n lo f args H r H',lo<=H.length->run cp n lo f args H=some (r,H')->Same lo H H'
 | 0=>fun lo f args H v H' _ h=>by grind[run]
 | n+1=>by
  intro lo f args H v H' hlo h;have ih:=xn (uq cp n);simp only[run]at h
  grind[bK,D8]
theorem Gx(cp:FuncId->Option CF)(n:Nat):dK (run cp n).ret:=(xn (uq cp n)).1
end
def Map.below(φ:Map)(k:Nat):Map:=fun i=>if i<k then φ i else none
theorem Map.below_le(φ:Map)(k:Nat):(φ.below k).le φ:=by
 intro i p h
 grind[below]
def ClV(k:Nat)(v:Value):Prop:=∃(ψ:Map) (c:Value),(∀i q,ψ i=some q->i<k)/\VRel ψ v c
theorem ClV.mono{k l:Nat}(h:k<=l){v:Value}(c:ClV k v):ClV l v:=by
 obtain⟨ψ,c,h1,h2⟩:=c;exact⟨ψ,c,fun i q hq=>bd₀ (h1 i q hq) h,h2⟩
theorem C4{ψ Φ:Map}{k:Nat}(hψ:∀i q,ψ i=some q->i<k){v c:Value}(r:VRel ψ v c):∀c',VRel Φ v c'->VRel (Φ.below k) v c':=by
 have bl:∀{i:Nat} {q p:Place},ψ i=some q->Φ i=some p->Φ.below k i=some p:=fun h1 h2=>by grind[Map.below]
 induction r with
 | bool b=>intro c' h;cases h;exact .bool _
 | int k n=>intro c' h;cases h;exact .int _ _
 | float k n=>intro c' h;cases h;exact .float _ _
 | string s=>intro c' h;cases h;exact .string _
 | nilPtr=>intro c' h;cases h;exact .nilPtr
 | ptr i o p e=>intro c' h;cases h;rename_i p' hp';exact .ptr i o p' (bl e hp')
 | nilSlice l c=>intro c' h;cases h;exact .nilSlice _ _
 | slice i o l c p e=>intro c' h;cases h;rename_i p' hp';exact .slice i o l c p' (bl e hp')
 | sliceIn i o l c z p o' c'' e hc hl ho hn=>intro c' h;cases h;rename_i p' o2 c2 hp' hc2 hl2 ho2 hn2;exact .sliceIn i o l c z p' o2 c2 (bl e (by assumption)) (by assumption) (by assumption) (by assumption) (by assumption)
 | nilMap=>intro c' h;cases h;exact .nilMap
 | func f a b a' b' ha hb _ _ ia ib=>
  intro c' h;cases h;rename_i a2 b2 ha2 ra2 hb2 rb2;refine .func f a b a2 b2 ha2 hb2 (fun j x y hx hy=>?_) (fun j x y hx hy=>?_)
  all_goals grind
 | nilFunc=>intro c' h;cases h;exact .nilFunc
 | iface t v v' _ ih=>intro c' h;cases h;rename_i c2 h2;exact .iface t v c2 (ih c2 h2)
 | nilIface=>intro c' h;cases h;exact .nilIface
 | agg a a' ha _ ia=>
  intro c' h;cases h;rename_i a2 ha2 ra2;refine .agg a a2 ha2 (fun j x y hx hy=>?_)
  grind
 | tuple a a' ha _ ia=>
  intro c' h;cases h;rename_i a2 ha2 ra2;refine .tuple a a2 ha2 (fun j x y hx hy=>?_)
  grind
theorem ClV.below{k:Nat}{v c:Value}{Φ:Map}(h:ClV k v)(r:VRel Φ v c):VRel (Φ.below k) v c:=by
 obtain⟨ψ,c0,h1,h2⟩:=h
 grind[C4]
section
variable {ds:List Deferred}{P:Program}{callA:dq}{base lo nt:Nat}{ops:List Oper}
def nA(P:Program)(callA:dq)(lo:Nat)(raised:Bool)(o:Oper)(T:Raw)(H:Heap):Option (Value×Heap):=
 match resolve P o.op with
 | (.l l,xs)=>(aJ l (xs.map (ay T)) H).map fun v=>(v,H)
 | (.h h,xs)=>hsem callA lo (cG raised h) (xs.map (ay T)) H
theorem lZ{raised:Bool}{o:Oper}{T T1:Raw}{H H1:Heap}(h:bV P callA lo ops raised o T H=some (T1,H1)) :
  ∃v,T1=eV T o.dst v/\((bR ops T o=true/\nA P callA lo raised o T H=some (v,H1))\/(bR ops T o=false/\v=undef/\H1=H)):=by
 unfold bV at h
 grind[nA]
theorem mz{raised:Nat->Bool}:∀(l:List Nat) (T:Raw) (H:Heap) (T':Raw) (H':Heap),bZ P callA lo ops raised l T H=some (T',H') ->
  ∃(Ts:Nat->Raw) (Hs:Nat->Heap),Ts 0=T/\Hs 0=H/\Ts l.length=T'/\Hs l.length=H'/\∀m i,l[m]?=some i->∃o,ops[i]?=some o/\bV P callA lo ops (raised i) o (Ts m) (Hs m)=some (Ts (m+1),Hs (m+1))
 | [],T,H,T',H',h=>by
  simp[bZ]at h;obtain⟨rfl,rfl⟩:=h;exact⟨fun _=>T,fun _=>H,rfl,rfl,rfl,rfl,fun m i hm=>by simp at hm⟩
 | i::l,T,H,T',H',h=>by
  simp only[bZ]at h;split at h
  ·rename_i o ho
   split at h
   ·rename_i T1 H1 hs
    obtain⟨Ts,Hs,e1,e2,e3,e4,e5⟩:=mz l T1 H1 T' H' h;refine⟨fun m=>match m with|0=>T|m+1=>Ts m,fun m=>match m with|0=>H|m+1=>Hs m,rfl,rfl,e3,e4,fun m j hm=>?_⟩
    grind
   ·simp at h
  ·simp at h
theorem Dl{o:Oper}{a:Act}{w:World}{K:Act->World->Prop}(h:o.wp P a w K (fun _ _ _=>False)):∃a' w',K a' w':=by
 unfold Oper.wp at h;generalize (execOp a.eval o).run P w=r at h;cases r with
 | ok nx w'=>
  cases nx<;>simp only[Oper.upon]at h
  case value v=>grind
  case skip=>grind
  case defer d=>grind
  case enter f args=>
   obtain⟨e,w'',fr,hR,_⟩:=h [];cases e with
   | returned v=>grind
   | panicked ch=>exact hR.elim
   | outgrown=>obtain⟨_,_,hf⟩:=hR;exact hf.elim
  case row r args=>
   obtain⟨v,w'',hR,_⟩:=h default []
   grind
 | halt x w'=>cases x<;>simp only[Oper.upon]at h
theorem P1(hcall:fP P base P.globals.size callA)(hbl:base<=lo)(hops:opsOK P nt ops=true){raised:Nat->Bool}{l:List Nat}{Ts:Nat->Raw}{Hs:Nat->Heap}
  (hst:∀m i,l[m]?=some i->∃o,ops[i]?=some o/\bV P callA lo ops (raised i) o (Ts m) (Hs m)=some (Ts (m+1),Hs (m+1))) {φ:Map} {w:World} {a:Act} (hlo:lo<=(Hs 0).length)
  (hT:Tmps ds φ nt (Ts 0) a) (hH:HRel φ base P.globals.size (Hs 0) w):∀m,m<=l.length->∃φ' w' a',Tmps ds φ' nt (Ts m) a'/\HRel φ' base P.globals.size (Hs m) w'/\lo<=(Hs m).length/\φ.le φ'/\Heap.keeps φ (Hs 0) (Hs m):=by
 intro m
 induction m with
 | zero=>intro _;exact⟨φ,w,a,hT,hH,hlo,Map.le_refl φ,Heap.keeps_refl _⟩
 | succ m ih=>
  intro hm;obtain⟨φ1,w1,a1,h1,h2,h3,h4,h5⟩:=ih byO;obtain⟨o,ho,hs⟩:=hst m _ (bc₀ byO);obtain⟨hd,hop⟩:=fW hops o (List.mem_of_getElem? ho);obtain⟨v,e1,h⟩:=lZ hs;rcases h with ⟨_,hsem⟩|⟨_,rfl,e2⟩
  ·have:=GZ (Q:=fun _ _ _=>False) (K:=fun a' w'=>∃φ' cv,a'=a1.put o.dst cv/\Eff φ1 base P.globals.size lo (Hs m) w1 φ' (Hs (m+1)) w'/\VRel φ' v cv) hcall hbl h3 h1 h2 hop hsem (fun cv φ' w' q1 q2=>⟨φ',cv,rfl,q1,q2⟩)
   obtain⟨a',w',φ',cv,rfl,q1,q2⟩:=Dl this;exact⟨φ',w',_,by rw[e1];exact(h1.mono q1.le).put hd q2,q1.rel,Nat.le_trans h3 q1.keeps.1,Map.le_trans h4 q1.le,Heap.keeps_trans h4 h5 q1.keeps⟩
  ·exact⟨φ1,w1,_,by rw[e1];exact h1.put hd gX,by rw[e2];exact h2,by rw[e2];exact h3,h4,by rw[e2];exact h5⟩
theorem Da{φ:Map}{G:Nat}{w:World}{a:Act}{T:Raw}{H:Heap}(hT:Tmps ds φ nt T a)(hH:HRel φ base G H w):(∀t,ClV H.length (T t))/\∀i c v,H.get i=some c->v ∈ c->ClV H.length v:=by
 refine⟨fun t=>⟨φ,_,hH.dom,hT.rel t⟩,fun i c v hc hv=>?_⟩;obtain⟨p,arr,ty,fr,e1,e2,e3,e4,e5,e6⟩:=hH.cell i c hc;obtain⟨j,hj⟩:=List.getElem?_of_mem hv;obtain⟨u,_,hr⟩:=e5 j v hj;exact⟨φ,u,hH.dom,hr⟩
theorem sF{o:Oper}(h:iF P o=0\/iF P o=1):∃l xs,resolve P o.op=(.l l,xs)/\(iF P o=1↔fH l=true):=by
 grind[iF]
theorem sE{o:Oper}(h:iF P o=2):∃hh xs,bJ P o.op=some (.h hh,xs)/\resolve P o.op=(.h hh,xs)/\hh.isAlloc=true:=by
 unfold iF at h;cases hres:resolve P o.op with
 | mk rop xs=>
 rw[hres]at h;cases rop with
 | l l=>simp only at h;split at h<;>simp at h
 | h hh=>
  have hk:hh.isAlloc=true:=by cases hh<;>simp at h<;>rfl
  refine⟨hh,xs,?_,rfl,hk⟩;unfold resolve at hres;cases h0:bJ P o.op with
  | none=>rw[h0]at hres;simp at hres;obtain⟨rfl,rfl⟩:=hres;simp[HOp.isAlloc]at hk
  | some q=>rw[h0]at hres;simp at hres;rw[hres]
theorem Ba{o:Oper}:iF P o<=3:=by
 grind[iF]
set_option maxHeartbeats 4000000 in
theorem qK{l:LOp}(h:fH l=false)(vs:List Value)(H H2:Heap):aJ l vs H=aJ l vs H2:=by
 cases l<;>simp[fH]at h
 case un op=>cases op<;>(rcases vs with _|⟨a,_|⟨b,r⟩⟩)<;>first|rfl|(cases a<;>rfl)
 all_goals (rcases vs with _|⟨a,_|⟨b,_|⟨c,_|⟨d,r⟩⟩⟩⟩)<;>first|rfl|(cases a<;>first|rfl|(rename_i ad;cases ad<;>first|rfl|(rename_i ad;rcases ad with ⟨i,o,_|z⟩<;>first|rfl|(cases b<;>rfl))|(cases b<;>rfl))|(rename_i ad _ _;cases ad<;>first|rfl|(rename_i ad;rcases ad with ⟨i,o,_|z⟩<;>first|rfl|(cases b<;>first|rfl|(rename_i bd;cases bd<;>rfl)|(rename_i bd _ _;cases bd<;>rfl)))|(cases b<;>first|rfl|(rename_i bd;cases bd<;>rfl)|(rename_i bd _ _;cases bd<;>rfl)))|(cases b<;>first|rfl|(rename_i bd;cases bd<;>rfl)|(rename_i bd _ _;cases bd<;>rfl))|(rename_i fn _ _;cases fn<;>rfl))
theorem uU{l:LOp}(h:fH l=true)(vs:List Value)(H H2:Heap){v:Value}(hs:aJ l vs H=some v)(hg:∀x i,vs.head?=some x->ae x=some i->H.get i=H2.get i):aJ l vs H2=some v:=by
 have hc:∀i off n,H.get i=H2.get i->H2.cells i off n=H.cells i off n:=fun i off n e=>by unfold Heap.cells;rw[e]
 cases l<;>simp[fH]at h
 case ld n agg=>
  rcases vs with _|⟨a,_|⟨b,r⟩⟩
  ·simp[aJ]at hs
  ·cases a<;>try (simp[aJ]at hs;done)
   rename_i ad;rcases ad with _|⟨i,o,sp⟩
   ·simp[aJ]at hs
   ·cases sp
    ·have:=hg _ i rfl rfl
     simp only[aJ]at hs ⊢;rw[hc _ _ _ this,hc _ _ _ this];exact hs
    ·simp[aJ]at hs
  ·cases a<;>simp[aJ]at hs
 case b2s=>
  rcases vs with _|⟨a,_|⟨b,r⟩⟩
  ·simp[aJ]at hs
  ·cases a<;>try (simp[aJ]at hs;done)
   rename_i ad l c;cases ad with
   | none=>exact hs
   | some ad=>
    have:=hg _ ad.block rfl rfl;simp only[aJ]at hs ⊢;rw[hc _ _ _ this];exact hs
  ·cases a<;>simp[aJ]at hs
end
section
variable {ds:List Deferred}{P:Program}{callA:dq}{base lo nt:Nat}{ops:List Oper}{Ts:Nat->Raw}{Hs:Nat->Heap}{φ0:Map}
def ord(P:Program)(ops:List Oper):List Nat:=dN P ops true
def ps(P:Program)(ops:List Oper)(i:Nat):Nat:=posOf (ord P ops) i
def bf(ops:List Oper)(i:Nat):List Nat:=bOf (beforeL ops) i
def kd(P:Program)(ops:List Oper)(i:Nat):Nat:=((kh P ops)[i]?).getD 0
structure DC (P:Program)(callA:dq)(base lo nt:Nat)(ops:List Oper)(Ts:Nat->Raw)(Hs:Nat->Heap)(φ0:Map):Prop where
 pos:∀i,i<ops.length->ps P ops i<ops.length/\(ord P ops)[ps P ops i]?=some i
 inv:∀m i,(ord P ops)[m]?=some i->i<ops.length/\ps P ops i=m
 step:∀i o,ops[i]?=some o->∃v,Ts (ps P ops i+1)=eV (Ts (ps P ops i)) o.dst v /\
  ((bR ops (Ts (ps P ops i)) o=true/\nA P callA lo (bT P ops true i) o (Ts (ps P ops i)) (Hs (ps P ops i))=some (v,Hs (ps P ops i+1))) \/
   (bR ops (Ts (ps P ops i)) o=false/\v=undef/\Hs (ps P ops i+1)=Hs (ps P ops i)))
 cl:∀m,m<=ops.length->lo<=(Hs m).length/\(∀t,ClV (Hs m).length (Ts m t))/\∀i c v,(Hs m).get i=some c->v ∈ c->ClV (Hs m).length v
 keeps:∀m,m<=ops.length->∀id c,id<(Hs 0).length->(∃q,φ0 id=some q)->(Hs m).get id=some c->∃d,(Hs 0).get id=some d
 same:∀i o,ops[i]?=some o->Same lo (Hs (ps P ops i)) (Hs (ps P ops i+1))
 opsOK:∀o ∈ ops,(∀d,o.dst=some d->d<nt)/\∀x ∈ (resolve P o.op).2,j2 P.globals.size x=true
 cover:∀i o,ops[i]?=some o->∀j ∈ bf ops i,∃e ∈ o.after.toList,Region.binds .any e=true/\(e.on=j\/j ∈ bf ops e.on)
 bpos:∀i,i<ops.length->∀j ∈ bf ops i,ps P ops j<ps P ops i
 guard:∀i o j want,ops[i]?=some o->o.guard=some (j,want)->j ∈ bf ops i
 tmp:∀i j o q,i≠j->ops[i]?=some o->ops[j]?=some q->¬ (i ∈ bf ops j\/j ∈ bf ops i)->∀d,o.dst=some d->q.dst≠some d/\d ∉ qt P ops q
 mov:∀i j,i<ops.length->j<ops.length->i≠j->kd P ops i=3->¬ (i ∈ bf ops j\/j ∈ bf ops i)->kd P ops j≠3/\(kd P ops j=2->ps P ops i<ps P ops j) /\
  (kd P ops j=1->ps P ops j<ps P ops i/\∀id,id<(Hs (ps P ops i)).length->(∀x,(cN P ops j)=some x->ae (ay (Ts (ps P ops j)) x)=some id)->(Hs (ps P ops i+1)).get id=(Hs (ps P ops i)).get id)
theorem DC.kd_at(_:DC P callA base lo nt ops Ts Hs φ0){i:Nat}{o:Oper}(ho:ops[i]?=some o):kd P ops i=iF P o:=by
 simp[kd,kh,ho]
theorem DC.at_pos(D:DC P callA base lo nt ops Ts Hs φ0){m:Nat}(hm:m<ops.length)(hn:(ord P ops).length=ops.length):∃i,i<ops.length/\ps P ops i=m:=by
 have h1:(ord P ops)[m]?=some (ord P ops)[m]:=bc₀ byO;exact⟨_,D.inv m _ h1⟩
theorem DC.keepT(D:DC P callA base lo nt ops Ts Hs φ0)(hn:(ord P ops).length=ops.length){t:Nat}:∀k m,m+k<=ops.length->(∀j o,ops[j]?=some o->o.dst=some t->m<=ps P ops j->m+k<=ps P ops j)->Ts (m+k) t=Ts m t:=by
 intro k
 induction k with
 | zero=>intro m _ _;rfl
 | succ k ih=>
  intro m hm hw;obtain⟨i,hi,hp⟩:=D.at_pos (m:=m+k) byO hn;have ho:ops[i]?=some ops[i]:=bc₀ hi;obtain⟨v,h1,_⟩:=D.step i _ ho;rw[hp]at h1;rw[<-Nat.add_assoc,h1];have hne:ops[i].dst≠some t:=fun e=>by have:=hw i _ ho e byO;omega
  have:eV (Ts (m+k)) ops[i].dst v t=Ts (m+k) t:=by
   cases hd:ops[i].dst with
   | none=>rfl
   | some d=>
    simp only[eV];split
    ·rename_i e;subst e;exact absurd hd hne
    ·rfl
  rw[this];exact ih m byO (fun j o hj hd hmj=>by have:=hw j o hj hd hmj;omega)
theorem DC.level(D:DC P callA base lo nt ops Ts Hs φ0)(hn:(ord P ops).length=ops.length)(p:Nat):∀k,p+k<=ops.length->(∀i,i<ops.length->kd P ops i=3->p<=ps P ops i->p+k<=ps P ops i) ->
  (Hs p).length<=(Hs (p+k)).length/\(∀id,id<(Hs p).length->(Hs (p+k)).get id=(Hs p).get id) /\
  ∀id,(Hs p).length<=id->id<(Hs (p+k)).length->∃i o,ops[i]?=some o/\kd P ops i=2/\p<=ps P ops i/\ps P ops i<p+k/\bR ops (Ts (ps P ops i)) o=true/\id=(Hs (ps P ops i)).length/\(Hs (p+k)).get id=(Hs (ps P ops i+1)).get id:=by
 intro k
 induction k with
 | zero=>intro _ _;exact⟨Nat.le_refl _,fun _ _=>rfl,fun id h1 h2=>absurd h2 (by rw[Nat.add_zero];omega)⟩
 | succ k ih=>
  intro hk hm;obtain⟨h1,h2,h3⟩:=ih byO (fun i hi hki hpi=>by have:=hm i hi hki hpi;omega);obtain⟨i,hi,hp⟩:=D.at_pos (m:=p+k) byO hn;have ho:ops[i]?=some ops[i]:=bc₀ hi;have hnm:kd P ops i≠3:=fun e=>by have:=hm i hi e byO;omega
  obtain⟨v,_,hs⟩:=D.step i _ ho;rw[hp]at hs;have sameH:Hs (p+k+1)=Hs (p+k)->_:=fun e=>show(Hs p).length<=(Hs (p+(k+1))).length/\(∀id,id<(Hs p).length->(Hs (p+(k+1))).get id=(Hs p).get id) /\
    ∀id,(Hs p).length<=id->id<(Hs (p+(k+1))).length->∃i o,ops[i]?=some o/\kd P ops i=2/\p<=ps P ops i/\ps P ops i<p+(k+1)/\bR ops (Ts (ps P ops i)) o=true/\id=(Hs (ps P ops i)).length/\(Hs (p+(k+1))).get id=(Hs (ps P ops i+1)).get id by
   rw[<-Nat.add_assoc,e];exact⟨h1,h2,fun id a b=>by obtain⟨i,o,q1,q2,q3,q4,q5⟩:=h3 id a b;exact⟨i,o,q1,q2,q3,byO,q5⟩⟩
  rcases hs with ⟨hw,hsm⟩|⟨_,_,e⟩
  ·by_cases hk2:kd P ops i=2
   ·rw[D.kd_at ho]at hk2
    obtain⟨hh,xs,r0,r1,r2⟩:=sE hk2;unfold nA at hsm;rw[r1]at hsm;simp only at hsm;have hsr:cG (bT P ops true i) hh=hh:=by cases hh<;>first|rfl|simp[HOp.isAlloc]at r2
    rw[hsr]at hsm;have hnew:∃c,Hs (p+k+1)=Hs (p+k)++[some c]:=by
     have hc:hh.isCall=false:=by cases hh<;>first|rfl|simp[HOp.isAlloc]at r2
     cases hh<;>simp[HOp.isAlloc]at r2
     ·cases hxs:xs.map (ay (Ts (p+k)))<;>rw[hxs]at hsm<;>simp[hsem]at hsm
      exact⟨_,hsm.2.symm⟩
     ·rcases hxs:xs.map (ay (Ts (p+k)))with _|⟨a,_|⟨b,r⟩⟩<;>rw[hxs]at hsm<;>simp[hsem]at hsm
      exact⟨_,hsm.2.symm⟩
     ·unfold Abs.hsem at hsm
      split at hsm<;>try (simp at hsm;done)
      all_goals first|(split at hsm;(simp at hsm;exact⟨_,hsm.2.symm⟩);(simp at hsm;done))|simp_all
     ·simp only[Abs.hsem,aa₀,ad₀]at hsm
      obtain⟨l,_,_,h⟩:=hsm;exact⟨_,h.symm⟩
     ·rcases hxs:xs.map (ay (Ts (p+k)))with _|⟨a,_|⟨b,r⟩⟩<;>rw[hxs]at hsm<;>try (simp[Abs.hsem]at hsm;done)
      ·cases a<;>simp[Abs.hsem]at hsm
       exact⟨_,hsm.2.symm⟩
    obtain⟨c,hc⟩:=hnew;rw[<-Nat.add_assoc,hc];refine⟨by simp;omega,fun id hid=>by rw[Heap.get_append_left byO];exact h2 id hid,fun id a b=>?_⟩;by_cases hid:id<(Hs (p+k)).length
    ·obtain⟨i',o',q1,q2,q3,q4,q5,q6,q7⟩:=h3 id a hid
     exact⟨i',o',q1,q2,q3,byO,q5,q6,by rw[Heap.get_append_left hid];exact q7⟩
    ·have:id=(Hs (p+k)).length:=by simp at b;omega
     exact⟨i,_,ho,by rw[D.kd_at ho];exact hk2,byO,byO,by rw[hp];exact hw,by rw[hp];exact this,by rw[hp,hc]⟩
   ·have hkl:iF P ops[i]=0\/iF P ops[i]=1:=by
     have:=Ba (P:=P) (o:=ops[i]);rw[D.kd_at ho]at hk2 hnm;omega
    obtain⟨l,xs,r1,_⟩:=sF hkl;unfold nA at hsm;rw[r1]at hsm;simp only[aa₀,ad₀]at hsm;obtain⟨_,_,_,e⟩:=hsm;exact sameH e.symm
  ·exact sameH e
structure JD (ds:List Deferred)(P:Program)(base lo nt:Nat)(ops:List Oper)(Ts:Nat->Raw)(Hs:Nat->Heap)(φ0:Map)(w0:World)(A:Nat->Prop)(a:Act)(w:World)(p:Nat)(ψ Φ:Map):Prop where
 down:∀i j,A i->i<ops.length->j ∈ bf ops i->A j
 ple:p<=ops.length
 mov:∀i,i<ops.length->kd P ops i=3->(A i↔ps P ops i<p)
 alc:∀i,i<ops.length->kd P ops i=2->ps P ops i<p->A i
 rel:HRel ψ base P.globals.size (Hs p) w
 le:ψ.le Φ
 plc:∀id q,Φ id=some q->q.b<w.heap.size
 dom:∀id q,Φ id=some q->ψ id=some q\/∃k o,ops[k]?=some o/\kd P ops k=2/\A k/\p<=ps P ops k/\bR ops (Ts (ps P ops k)) o=true/\id=(Hs (ps P ops k)).length
 al:∀k o,ops[k]?=some o->kd P ops k=2->A k->p<=ps P ops k->bR ops (Ts (ps P ops k)) o=true->∃q arr ty fr,Φ (Hs (ps P ops k)).length=some q/\q.s=0/\w.heap[q.b]?=some (.cells arr ty fr)/\arr.size=q.n /\
  (∃c,(Hs (ps P ops k+1)).get (Hs (ps P ops k)).length=some c/\c.length<=q.n/\∀(j:Nat) v,c[j]?=some v->∃u,arr[j]?=some u/\VRel Φ v u)/\NoFrz arr.size fr /\
  ∀id q',Φ id=some q'->id≠(Hs (ps P ops k)).length->q'.b≠q.b
 tsz:a.tmps.size=nt
 tdef:a.defers=ds
 tmp:∀t m,m<=ops.length->(∀j o,ops[j]?=some o->o.dst=some t->(A j↔ps P ops j<m))->VRel Φ (Ts m t) (a.tmps.getD t undef)
 le0:φ0.le Φ
 size:w0.heap.size<=w.heap.size
 keep:∀b,b<w0.heap.size->(∀i c q,lo<=i->(Hs 0).get i=some c->φ0 i=some q->q.b≠b)->w.heap[b]?=w0.heap[b]?
 fresh:∀i q,φ0 i=none->Φ i=some q->w0.heap.size<=q.b\/∃j c q',lo<=j/\(Hs 0).get j=some c/\φ0 j=some q'/\q'.b=q.b
 os:w.os=w0.os
 out:w.output=w0.output
variable {w0:World}{A:Nat->Prop}{a:Act}{w:World}{p:Nat}{ψ Φ:Map}
theorem JD.at_level(D:DC P callA base lo nt ops Ts Hs φ0)(hn:(ord P ops).length=ops.length)(J:JD ds P base lo nt ops Ts Hs φ0 w0 A a w p ψ Φ){m:Nat}(hpm:p<=m)(hm:m<=ops.length)
  (hnm:∀i,i<ops.length->kd P ops i=3->p<=ps P ops i->m<=ps P ops i) (hal:∀i,i<ops.length->kd P ops i=2->p<=ps P ops i->ps P ops i<m->A i):HRel (Φ.below (Hs m).length) base P.globals.size (Hs m) w:=by
 obtain⟨k,rfl⟩:∃k,m=p+k:=⟨m-p,byO⟩;obtain⟨h1,h2,h3⟩:=D.level hn p k hm hnm;have hlo:=(D.cl p J.ple).1;have hψ:∀id q,ψ id=some q->Φ.below (Hs (p+k)).length id=some q:=fun id q hq=>by
  have:=J.rel.dom id q hq;have hlt:id<(Hs (p+k)).length:=byO;unfold Map.below;rw[if_pos hlt];exact J.le id q hq
 have hψle:ψ.le (Φ.below (Hs (p+k)).length):=hψ;have blk:∀id c,(Hs p).length<=id->(Hs (p+k)).get id=some c->∃q arr ty fr,Φ.below (Hs (p+k)).length id=some q/\q.s=0/\w.heap[q.b]?=some (.cells arr ty fr)/\arr.size=q.n/\c.length<=q.n /\
   (∀(j:Nat) v,c[j]?=some v->∃u,arr[j]?=some u/\VRel (Φ.below (Hs (p+k)).length) v u)/\NoFrz arr.size fr/\∀id' q',Φ id'=some q'->id'≠id->q'.b≠q.b:=by
  intro id c hid hc;have hlt:=Heap.get_lt hc;obtain⟨i,o,q1,q2,q3,q4,q5,q6,q7⟩:=h3 id hid hlt;have hi:i<ops.length:=(List.getElem?_eq_some_iff.1 q1).1;obtain⟨q,arr,ty,fr,a1,a2,a3,a4,⟨c',a5,a6,a7⟩,a8,a9⟩:=J.al i o q1 q2 (hal i hi q2 q3 q4) q3 q5;rw[<-q6]at a1 a5 a9;rw[q7,a5]at hc;cases hc;refine⟨q,arr,ty,fr,by unfold Map.below;rw[if_pos hlt];exact a1,a2,a3,a4,a6,fun j v hv=>?_,a8,a9⟩;obtain⟨u,hu,hr⟩:=a7 j v hv;have hcl:=(D.cl (p+k) hm).2.2 id c v (by rw[q7,a5]) (List.mem_of_getElem? hv);exact⟨u,hu,hcl.below hr⟩
 refine⟨?_,?_,?_,?_,?_⟩
 ·intro id c hc
  by_cases hid:id<(Hs p).length
  ·rw[h2 id hid]at hc
   obtain⟨q,arr,ty,fr,e1,e2,e3,e4,e5,e6⟩:=J.rel.cell id c hc;exact⟨q,arr,ty,fr,hψ _ _ e1,e2,e3,e4,fun j v hv=>by obtain⟨u,hu,hr⟩:=e5 j v hv;exact⟨u,hu,hr.mono hψle⟩,e6⟩
  ·obtain⟨q,arr,ty,fr,e1,e2,e3,e4,e5,e6,e7,_⟩:=blk id c byO hc
   exact⟨q,arr,ty,fr,e1,e3,byO,e5,fun j v hv=>by rw[e2,Nat.zero_add];exact e6 j v hv,fun _=>e7⟩
 ·intro i j ci cj q r hi hj hq hr hb he
  have ψof:∀id c q,id<(Hs p).length->(Hs (p+k)).get id=some c->Φ.below (Hs (p+k)).length id=some q->ψ id=some q/\(Hs p).get id=some c:=by
   intro id c q hid hc hq;rw[h2 id hid]at hc;obtain⟨q',hq'⟩:=J.rel.place hc;have:=hψ id q' hq';rw[hq]at this;cases this;exact⟨hq',hc⟩
  by_cases h1:i<(Hs p).length<;>by_cases h2':j<(Hs p).length
  ·obtain⟨a1,a2⟩:=ψof i ci q h1 hi hq
   obtain⟨b1,b2⟩:=ψof j cj r h2' hj hr;exact J.rel.inj i j ci cj q r a2 b2 a1 b1 hb he
  ·obtain⟨q2,_,_,_,e1,_,_,_,_,_,_,e8⟩:=blk j cj byO hj
   rw[hr]at e1;cases e1;exact Decidable.byContradiction fun hne=>e8 i q (Map.below_le _ _ i q hq) hne he
  ·obtain⟨q2,_,_,_,e1,_,_,_,_,_,_,e8⟩:=blk i ci byO hi
   rw[hq]at e1;cases e1;exact Decidable.byContradiction fun hne=>e8 j r (Map.below_le _ _ j r hr) (fun e=>hne e.symm) he.symm
  ·obtain⟨q2,_,_,_,e1,_,_,_,_,_,_,e8⟩:=blk j cj byO hj
   rw[hr]at e1;cases e1;exact Decidable.byContradiction fun hne=>e8 i q (Map.below_le _ _ i q hq) hne he
 ·intro i q hq
  unfold Map.below at hq;split at hq
  ·assumption
  ·simp at hq
 ·intro g hg
  obtain⟨n,hn⟩:=J.rel.glob g hg;exact⟨n,hψ g _ hn⟩
 ·intro i q hq;exact J.plc i q (Map.below_le _ _ i q hq)
theorem JD.operand(D:DC P callA base lo nt ops Ts Hs φ0)(J:JD ds P base lo nt ops Ts Hs φ0 w0 A a w p ψ Φ){i:Nat}{o:Oper}(ho:ops[i]?=some o)(hpre:∀j ∈ bf ops i,A j)(hnA:¬ A i){t:Nat}(ht:t ∈ qt P ops o) :
  VRel Φ (Ts (ps P ops i) t) (a.tmps.getD t undef):=by
 have hi:i<ops.length:=(List.getElem?_eq_some_iff.1 ho).1;refine J.tmp t (ps P ops i) (Nat.le_of_lt (D.pos i hi).1) fun j q hj hd=>?_;have hjl:j<ops.length:=(List.getElem?_eq_some_iff.1 hj).1;by_cases hji:j=i
 ·subst hji
  exact⟨fun h=>absurd h hnA,fun h=>absurd h (Nat.lt_irrefl _)⟩
 ·by_cases hord:j ∈ bf ops i\/i ∈ bf ops j
  ·rcases hord with h|h
   ·exact⟨fun _=>D.bpos i hi j h,fun _=>hpre j h⟩
   ·exact⟨fun hA=>absurd (J.down j i hA hjl h) hnA,fun hlt=>absurd (D.bpos j hjl i h) byO⟩
  ·exfalso
   exact(D.tmp j i q o hji hj ho hord t hd).2 ht
theorem JD.evalOpd(D:DC P callA base lo nt ops Ts Hs φ0)(J:JD ds P base lo nt ops Ts Hs φ0 w0 A a w p ψ Φ){i:Nat}{o:Oper}(ho:ops[i]?=some o)(hpre:∀j ∈ bf ops i,A j)(hnA:¬ A i) :
  ∀x ∈ (resolve P o.op).2,VRel Φ (ay (Ts (ps P ops i)) x) (a.eval x):=by
 intro x hx;have hop:=(D.opsOK o (List.mem_of_getElem? ho)).2 x hx;cases x with
 | tmp t=>
  refine J.operand D ho hpre hnA (List.mem_append_left _ ?_);exact List.mem_filterMap.2 ⟨.tmp t,hx,rfl⟩
 | const v=>exact(nV Φ (by simpa[j2,kj]using hop):VRel Φ v v)
 | global g=>
  obtain⟨n,hn⟩:=J.rel.glob g (by simpa[j2,kj]using hop);exact .ptr g 0 _ (J.le g _ hn)
 | func f=>exact .func f #[] #[] #[] #[] rfl rfl (fun j x y hx=>by simp at hx) (fun j x y hx=>by simp at hx)
theorem JD.want(D:DC P callA base lo nt ops Ts Hs φ0)(J:JD ds P base lo nt ops Ts Hs φ0 w0 A a w p ψ Φ){i:Nat}{o:Oper}(ho:ops[i]?=some o)(hpre:∀j ∈ bf ops i,A j)(hnA:¬ A i) :
  Region.wanted o (yielded ops.toArray a.tmps)=bR ops (Ts (ps P ops i)) o:=by
 unfold Region.wanted bR;cases hg:o.guard with
 | none=>rfl
 | some q=>
  obtain⟨j,want⟩:=q;simp only[yielded,aj₀];cases hj:ops[j]? with
  | none=>rfl
  | some oj=>
   simp only[ao₀];cases hd:oj.dst with
   | none=>rfl
   | some t=>
    simp only[ao₀,vJ];have:=J.operand D ho hpre hnA (t:=t) (List.mem_append_right _ (by simp[hg,hj,hd]));rw[at₀]at this;cases ht:a.tmps[t]? with
    | none=>
     rw[ht]at this;simp only[Option.getD_none]at this;generalize Ts (ps P ops i) t=v at this;unfold undef at this;cases this<;>rfl
    | some c=>
     rw[ht]at this;simp only[aq₀]at this;generalize Ts (ps P ops i) t=v at this ⊢;cases this<;>simp
theorem JD.put(D:DC P callA base lo nt ops Ts Hs φ0)(hn:(ord P ops).length=ops.length)(J:JD ds P base lo nt ops Ts Hs φ0 w0 A a w p ψ Φ){i:Nat}{o:Oper}(ho:ops[i]?=some o)(hnA:¬ A i){Φ':Map}(hle:Φ.le Φ'){v c:Value}
  (hv:Ts (ps P ops i+1)=eV (Ts (ps P ops i)) o.dst v) (hr:VRel Φ' v c) :
  (a.put o.dst c).tmps.size=nt/\(a.put o.dst c).defers=ds/\∀t m,m<=ops.length->(∀j q,ops[j]?=some q->q.dst=some t->((A j\/j=i)↔ps P ops j<m))->VRel Φ' (Ts m t) ((a.put o.dst c).tmps.getD t undef):=by
 have hi:i<ops.length:=(List.getElem?_eq_some_iff.1 ho).1;have hdlt:=(D.opsOK o (List.mem_of_getElem? ho)).1;refine⟨by cases o.dst<;>simp[Act.put,J.tsz],by cases o.dst<;>simp[Act.put,J.tdef],fun t m hm hcons=>?_⟩;by_cases hd:o.dst=some t
 ·
  have hlt:ps P ops i<m:=(hcons i o ho hd).1 (.inr rfl);have dS:Ts m t=v:=by
   obtain⟨k,rfl⟩:∃k,m=ps P ops i+1+k:=⟨m-(ps P ops i+1),byO⟩;rw[D.keepT hn (t:=t) k (ps P ops i+1) hm ?_,hv,hd]
   ·simp[eV]
   ·intro j q hj hq hmj
    refine Decidable.byContradiction fun hlt2=>?_;have hjl:j<ops.length:=(List.getElem?_eq_some_iff.1 hj).1;have hji:j≠i:=fun e=>by subst e;omega
    have hAj:A j:=((hcons j q hj hq).2 byO).resolve_right hji;by_cases hord:i ∈ bf ops j\/j ∈ bf ops i
    ·rcases hord with h|h
     ·exact hnA (J.down j i hAj hjl h)
     ·have:=D.bpos i hi j h;omega
    ·exact(D.tmp i j o q (fun e=>hji e.symm) ho hj hord t hd).1 hq
  have hsz:t<a.tmps.size:=by rw[J.tsz];exact hdlt t hd
  rw[dS,hd];simp[Act.put,hsz];exact hr
 ·have e2:(a.put o.dst c).tmps.getD t undef=a.tmps.getD t undef:=by
   cases hd2:o.dst with
   | none=>rfl
   | some d=>
    have:d≠t:=fun e=>hd (by rw[hd2,e]);simp[Act.put,at₀,this]
  rw[e2];refine(J.tmp t m hm fun j q hj hq=>?_).mono hle;have:=hcons j q hj hq;have hji:j≠i:=fun e=>by subst e;rw[ho]at hj;cases hj;exact hd hq
  simpa[hji]using this
end
end Go.Abs
